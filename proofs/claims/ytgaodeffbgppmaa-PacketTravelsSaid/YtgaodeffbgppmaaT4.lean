/- Part 4 of the texts that a walk of this program rests on: an abstract machine, its soundness, contracts of functions. No statement of the seat is proved in this file. -/
import Derived.Test.YtgaodeffbgppmaaT3
import Derived.Laws.BitsAllLaws
import Derived.Laws.DeepNot64
import Derived.RowKit
import Derived.WalkKit
import Derived.Laws.RangeAny
import Derived.Laws.RangeString
namespace Go.Proofs.Ytgaodeffbgppmaa.Nw
open Go.X
set_option linter.unusedVariables false
set_option linter.unusedSimpArgs false
theorem flat_sorted : ∀ (ts : List Int), ts.Pairwise (· < ·) → ∀ {P : List Arv}, srtA P → ts.flatMap (fun t => P.filter fun a => decide (a.at_ = t)) = P.filter fun a => decide (a.at_ ∈ ts)
  | [], _, P, _ => by rw [List.filter_eq_nil_iff.2 (by intro a _; simp)]; rfl
  | t :: ts, hp, P, hs => by
    have hp' := List.pairwise_cons.1 hp
    rw [List.flatMap_cons, flat_sorted ts hp'.2 hs]
    unfold srtA at hs
    induction P with
    | nil => rfl
    | cons a P ih =>
      have hs' := List.pairwise_cons.1 hs
      have ih := ih hs'.2
      by_cases h1 : a.at_ = t
      · have h2 : a.at_ ∉ ts := fun h => by have := hp'.1 _ h; omega
        rw [List.filter_cons_of_pos (by simpa using h1), List.filter_cons_of_neg (by simpa using h2), List.filter_cons_of_pos (by simp [h1]), List.cons_append, ih]
      · by_cases h2 : a.at_ ∈ ts
        · have h3 : P.filter (fun a => decide (a.at_ = t)) = [] := by
            rw [List.filter_eq_nil_iff]
            intro p hp2 hpt
            have := hs'.1 p hp2
            have := hp'.1 _ h2
            have hpt : p.at_ = t := by simpa using hpt
            omega
          rw [List.filter_cons_of_neg (by simpa using h1), List.filter_cons_of_pos (by simpa using h2), List.filter_cons_of_pos (by simp [h2]), ← ih, h3]
          rfl
        · rw [List.filter_cons_of_neg (by simpa using h1), List.filter_cons_of_neg (by simpa using h2), List.filter_cons_of_neg (by simp [h1, h2]), ih]
theorem flatMap_cong {α β : Type} {f g : α → List β} : ∀ {l : List α}, (∀ x ∈ l, f x = g x) → l.flatMap f = l.flatMap g
  | [], _ => rfl
  | a :: l, h => by rw [List.flatMap_cons, List.flatMap_cons, h a (List.mem_cons_self ..), flatMap_cong fun x hx => h x (List.mem_cons_of_mem _ hx)]
theorem Rc.recv {N : Pg} {P : List Arv} (h : Rc N P) {u : Int} {ts : List Int} (hp : ts.Pairwise (· < ·)) (hm : ∀ x, x ∈ ts ↔ 0 ≤ x ∧ N.D x.toNat ≠ [] ∧ x ≤ u) :
    ts.flatMap (fun t => N.D t.toNat) = rcvP u P ∧ (∀ x : Nat, dropD N.D ts x = (rcvQ u P).filter fun a => decide (a.at_ = (x : Int))) := by
  have hA : ∀ a ∈ P, (a.at_ ∈ ts ↔ a.at_ ≤ u) := fun a ha => by
    have h0 := h.nn a ha
    rw [hm]
    refine ⟨fun h1 => h1.2.2, fun h1 => ⟨h0, ?_, h1⟩⟩
    rw [h.eq, Int.toNat_of_nonneg h0]
    exact List.ne_nil_of_mem (List.mem_filter.2 ⟨ha, decide_eq_true rfl⟩)
  constructor
  · rw [flatMap_cong (g := fun t => P.filter fun a => decide (a.at_ = t)) (fun t ht => by
      rw [h.eq, Int.toNat_of_nonneg ((hm t).1 ht).1]), flat_sorted ts hp h.srt]
    unfold rcvP
    exact List.filter_congr fun a ha => decide_eq_decide.2 (hA a ha)
  · intro x
    unfold dropD rcvQ
    rw [List.filter_filter]
    by_cases hx : (x : Int) ∈ ts
    · rw [if_pos hx]
      symm
      rw [List.filter_eq_nil_iff]
      intro a ha h2
      simp only [Bool.and_eq_true, decide_eq_true_eq, Bool.not_eq_true', decide_eq_false_iff_not] at h2
      have := ((hm x).1 hx).2.2
      omega
    · rw [if_neg hx, h.eq]
      refine List.filter_congr fun a ha => ?_
      have := hA a ha
      by_cases h1 : a.at_ = (x : Int)
      · have h2 : ¬ a.at_ ≤ u := fun h3 => hx (h1 ▸ this.2 h3)
        rw [decide_eq_true h1, decide_eq_false h2]
        rfl
      · rw [decide_eq_false h1]
        rfl
theorem len_pq (u : Int) (P : List Arv) : (rcvP u P).length + (rcvQ u P).length = P.length := by
  unfold rcvP rcvQ
  induction P with
  | nil => rfl
  | cons a P ih =>
    by_cases h : a.at_ ≤ u
    · rw [List.filter_cons_of_pos (by simpa using h), List.filter_cons_of_neg (by simpa using h)]
      simp only [List.length_cons]
      omega
    · rw [List.filter_cons_of_neg (by simpa using h), List.filter_cons_of_pos (by simpa using h)]
      simp only [List.length_cons]
      omega
theorem srtA_filter {P : List Arv} (h : srtA P) (p : Arv → Bool) : srtA (P.filter p) := List.Pairwise.filter _ h
theorem PgI_of {N : Pg} (hO : PgOk N.M N.D N.ck) {P : List Arv} (h1 : ∀ x : Nat, N.D x = P.filter fun a => decide (a.at_ = (x : Int))) (h2 : ∀ a ∈ P, 0 ≤ a.at_) (h3 : N.cnt = P.length) : PgI N :=
  ⟨hO, fun x => by rw [h1, h3]; have := List.length_filter_le (fun a : Arv => decide (a.at_ = (x : Int))) P; omega, by rw [h3]; omega, P, h1, h2, h3⟩
theorem Rl.recv {N : Pg} {X : Nt} (h : Rl N X) {u : Int} {ts : List Int} {M' : List (Nat × Nat)} (hp : ts.Pairwise (· < ·)) (hm : ∀ x, x ∈ ts ↔ 0 ≤ x ∧ N.D x.toNat ≠ [] ∧ x ≤ u) (hO : PgOk M' (dropD N.D ts) N.ck) :
    ts.flatMap (fun t => N.D t.toNat) = rcvP u X.P ∧
      Rl { N with now := max N.now u, cnt := N.cnt - (ts.flatMap fun t => N.D t.toNat).length, M := M', D := dropD N.D ts } { X with P := rcvQ u X.P, last := max X.last u } := by
  obtain ⟨e1, e2⟩ := h.c.recv hp hm
  have hc := h.c.cnt
  have hl := len_pq u X.P
  refine ⟨e1, h.m, h.lat, h.F, h.sent, by show max N.now u = max X.last u; rw [h.now], ⟨?_, e2, fun a ha => h.c.nn a (List.mem_filter.1 ha).1, srtA_filter h.c.srt _⟩, fun a ha => h.no a (List.mem_filter.1 ha).1, fun a ha => h.nd a (List.mem_filter.1 ha).1⟩
  refine PgI_of (N := { N with now := max N.now u, cnt := N.cnt - (ts.flatMap fun t => N.D t.toNat).length, M := M', D := dropD N.D ts }) hO e2 (fun a ha => h.c.nn a (List.mem_filter.1 ha).1) ?_
  show N.cnt - ((ts.flatMap fun t => N.D t.toNat).length : Nat) = ((rcvQ u X.P).length : Nat)
  rw [e1]
  omega
theorem Rl.next {N : Pg} {X : Nt} (h : Rl N X) {l : Int} {o : Bool} (h0 : N.M.length = 0 → l = 0 ∧ o = false) (h1 : 0 < N.M.length → o = true ∧ (∃ i, i < N.M.length ∧ l = (N.M.getD i default).2) ∧ ∀ i, i < N.M.length → l ≤ (N.M.getD i default).2) :
    (X.P.length = 0 → l = 0 ∧ o = false) ∧ (X.P.length ≠ 0 → l = (X.P.getD 0 default).at_ ∧ o = true) := by
  have hk : ∀ a ∈ X.P, ∃ i, i < N.M.length ∧ ((N.M.getD i default).2 : Int) = a.at_ := fun a ha => by
    have hn := h.c.nn a ha
    obtain ⟨i, hi, e⟩ := h.c.I.ok.all a.at_.toNat (by
      rw [h.c.eq, Int.toNat_of_nonneg hn]
      exact List.ne_nil_of_mem (List.mem_filter.2 ⟨ha, decide_eq_true rfl⟩))
    exact ⟨i, hi, by omega⟩
  have hk2 : ∀ i, i < N.M.length → ∃ a ∈ X.P, a.at_ = ((N.M.getD i default).2 : Int) := fun i hi => by
    have := h.c.I.ok.ne i hi
    rw [h.c.eq] at this
    obtain ⟨a, ha⟩ := List.exists_mem_of_ne_nil _ this
    obtain ⟨h1, h2⟩ := List.mem_filter.1 ha
    exact ⟨a, h1, by simpa using h2⟩
  constructor
  · intro hP
    refine h0 ?_
    rcases Nat.eq_zero_or_pos N.M.length with h2 | h2
    · exact h2
    · obtain ⟨a, ha, _⟩ := hk2 0 h2
      rw [List.eq_nil_of_length_eq_zero hP] at ha
      cases ha
  · intro hP
    have hm : X.P.getD 0 default ∈ X.P := by rw [getD_at (by omega)]; exact List.getElem_mem _
    obtain ⟨i, hi, e⟩ := hk _ hm
    obtain ⟨g1, ⟨j, hj, g2⟩, g3⟩ := h1 (by omega)
    refine ⟨?_, g1⟩
    have h4 := g3 i hi
    obtain ⟨a, ha, e2⟩ := hk2 j hj
    have h5 : (X.P.getD 0 default).at_ ≤ a.at_ := by
      obtain ⟨q, hq, rfl⟩ := List.getElem_of_mem ha
      by_cases h0 : q = 0
      · subst h0; rw [getD_at (by omega)]; exact Int.le_refl _
      · have := List.pairwise_iff_getElem.1 h.c.srt 0 q (by omega) hq (by omega)
        rw [getD_at (by omega)]
        exact this
    omega
theorem Rl.clear {N : Pg} {X : Nt} (h : Rl N X) {u : Int} {Q : List Nat} {M' : List (Nat × Nat)} {ck' : Nat} (hQ : Seen N.M Q) (hall : ∀ i, i < N.M.length → i ∈ Q) (hO : PgOk M' (kept N u Q) ck') :
    Rl { N with cnt := kcnt N u Q, M := M', D := kept N u Q, ck := ck' } { X with P := clrP u X.P } := by
  have e1 : ∀ x, kept N u Q x = (N.D x).filter (kp u) := fun x => by
    unfold kept
    split
    · rfl
    · rename_i hx
      by_cases hD : N.D x = []
      · rw [hD]; rfl
      · obtain ⟨i, hi, e⟩ := h.c.I.ok.all x hD
        exact absurd (List.mem_map.2 ⟨i, hall i hi, e⟩) hx
  have e2 : ∀ x : Nat, kept N u Q x = (clrP u X.P).filter fun a => decide (a.at_ = (x : Int)) := fun x => by
    rw [e1, h.c.eq]
    unfold clrP
    rw [List.filter_filter, List.filter_filter]
    refine List.filter_congr fun a _ => ?_
    unfold kp
    exact Bool.and_comm _ _
  have hnn : ∀ a ∈ clrP u X.P, 0 ≤ a.at_ := fun a ha => h.c.nn a (List.mem_filter.1 ha).1
  have hcnt : ((kcnt N u Q : Nat) : Int) = (clrP u X.P).length := by
    have hnd : (Q.map fun q => ((N.M.getD q default).2 : Int)).Nodup := by
      rw [List.nodup_iff_pairwise_ne, List.pairwise_map]
      refine (List.nodup_iff_pairwise_ne.1 hQ.nd).imp_of_mem ?_
      intro a b ha hb hab e
      exact hab (h.c.I.ok.inj (hQ.lt a ha) (hQ.lt b hb) (by omega))
    have h1 := flat_len e2 (Q.map fun q => ((N.M.getD q default).2 : Int)) hnd (fun t ht => by obtain ⟨e, _, rfl⟩ := List.mem_map.1 ht; omega)
    rw [List.filter_eq_self.2 (fun a ha => decide_eq_true (by
      have ha' := (List.mem_filter.1 ha).1
      have hn := h.c.nn a ha'
      obtain ⟨i, hi, e⟩ := h.c.I.ok.all a.at_.toNat (by
        rw [h.c.eq, Int.toNat_of_nonneg hn]
        exact List.ne_nil_of_mem (List.mem_filter.2 ⟨ha', decide_eq_true rfl⟩))
      exact List.mem_map.2 ⟨i, hall i hi, by omega⟩))] at h1
    unfold kcnt
    rw [← h1]
    congr 2
    exact flatMap_cong fun x _ => (e1 _).symm
  refine ⟨h.m, h.lat, h.F, h.sent, h.now, ⟨?_, e2, hnn, srtA_filter h.c.srt _⟩, fun a ha => h.no a (List.mem_filter.1 ha).1, fun a ha => h.nd a (List.mem_filter.1 ha).1⟩
  exact PgI_of (N := { N with cnt := kcnt N u Q, M := M', D := kept N u Q, ck := ck' }) hO e2 hnn hcnt
end Go.Proofs.Ytgaodeffbgppmaa.Nw


namespace Go.Proofs.Ytgaodeffbgppmaa.Nw
open Go.X
set_option linter.unusedSimpArgs false
set_option linter.unusedVariables false
theorem rH15naJ0 {σ : List Sg} {H h' : List Fam} {v : T} {K : T → List Fam → Prop} {H' : List Fam} {v' : T} {N : Nat} (hk : K v' H') (hN : H.length = N := by (try simp only [↓List.length_cons, ↓List.length_nil, Nat.reduceAdd]) <;> rfl) (h : givesF σ N H σ h' = some H' := by (try simp (maxSteps := 1000000) only [givesF, setF, updF, Fam.zeroth, Fam.rk, Ck.rk, C.rk, E.rk, T.rk, key, List.map_cons, List.map_nil, List.cons_append, List.nil_append, List.length_cons, List.length_nil, Option.map_some, Option.bind_some, Nat.reduceAdd, Nat.zero_add, Nat.add_zero, Nat.add_sub_cancel_left, Int.toNat_natCast, reps, List.all_cons, List.all_nil, C.flat, List.append_eq, Bool.not_true, Bool.and_true, Bool.or_false, Bool.or_self, Bool.not_false, List.append_nil, Bool.and_self, ↓lsG_rk, encF]) <;> rfl) (hv : v.rk σ N = v' := by (try simp only [givesF, setF, updF, Fam.zeroth, Fam.rk, Ck.rk, C.rk, E.rk, T.rk, key, List.map_cons, List.map_nil, List.cons_append, List.nil_append, List.length_cons, List.length_nil, Option.map_some, Option.bind_some, Nat.reduceAdd, Nat.zero_add, Nat.add_zero, Nat.add_sub_cancel_left, Int.toNat_natCast, reps, List.all_cons, List.all_nil, C.flat, List.append_eq, Bool.not_true, Bool.and_true, Bool.or_false, Bool.or_self, Bool.not_false, List.append_nil, Bool.and_self, ↓lsG_rk, encF]) <;> rfl) : RetG σ H h' v K := ret_mk3 hN h hv hk
theorem rH15naJ1 {σ : List Sg} {H h' : List Fam} {v : T} {K : T → List Fam → Prop} {H' : List Fam} {v' : T} {N : Nat} (hk : K v' H') (hN : H.length = N := by (try simp only [↓List.length_cons, ↓List.length_nil, Nat.reduceAdd]) <;> rfl) (h : givesF σ N H σ h' = some H' := by (try simp (maxSteps := 1000000) only [givesF, setF, updF, Fam.zeroth, Fam.rk, Ck.rk, C.rk, E.rk, T.rk, key, List.map_cons, List.map_nil, List.cons_append, List.nil_append, List.length_cons, List.length_nil, Option.map_some, Option.bind_some, Nat.reduceAdd, Nat.zero_add, Nat.add_zero, Nat.add_sub_cancel_left, Int.toNat_natCast, reps, List.all_cons, List.all_nil, C.flat, List.append_eq, Bool.not_true, Bool.and_true, Bool.or_false, Bool.or_self, Bool.not_false, List.append_nil, Bool.and_self, ↓lsG_rk]) <;> rfl) (hv : v.rk σ N = v' := by (try simp only [givesF, setF, updF, Fam.zeroth, Fam.rk, Ck.rk, C.rk, E.rk, T.rk, key, List.map_cons, List.map_nil, List.cons_append, List.nil_append, List.length_cons, List.length_nil, Option.map_some, Option.bind_some, Nat.reduceAdd, Nat.zero_add, Nat.add_zero, Nat.add_sub_cancel_left, Int.toNat_natCast, reps, List.all_cons, List.all_nil, C.flat, List.append_eq, Bool.not_true, Bool.and_true, Bool.or_false, Bool.or_self, Bool.not_false, List.append_nil, Bool.and_self, ↓lsG_rk]) <;> rfl) : RetG σ H h' v K := ret_mk3 hN h hv hk
theorem cH15naJ2 {P : Program} {F : Nat} {args : List T} {H : List Fam} {K : T → List Fam → Prop} {σ : List Sg} {nl : List Fam} {args0 : List T} {h0 : List Fam} {Q : T → List Fam → Prop} {H2 H1 : List Fam} {N n : Nat} (hc : Ctr P F args0 h0 Q) (hk : ∀ v h', Q v h' → capsP h' → RetG σ H2 h' v K) (hap : apart σ = true := by rfl) (hnl : nl.all nilB = true := by rfl) (h1 : H ++ nl = H1 := by first | exact List.append_nil _ | ((try simp only [List.cons_append, List.nil_append]) <;> rfl)) (hN : H1.length = N := by (try simp only [↓List.length_cons, ↓List.length_nil, Nat.reduceAdd]) <;> rfl) (hn : H.length = n := by (try simp only [↓List.length_cons, ↓List.length_nil, Nat.reduceAdd]) <;> rfl) (hH : givesF σ N H1 σ h0 = some H2 := by (try simp (maxSteps := 1000000) only [givesF, setF, updF, Fam.zeroth, Fam.rk, Ck.rk, C.rk, E.rk, T.rk, key, List.map_cons, List.map_nil, List.cons_append, List.nil_append, List.length_cons, List.length_nil, Option.map_some, Option.bind_some, Nat.reduceAdd, Nat.zero_add, Nat.add_zero, Nat.add_sub_cancel_left, Int.toNat_natCast, reps, List.all_cons, List.all_nil, C.flat, List.append_eq, Bool.not_true, Bool.and_true, Bool.or_false, Bool.or_self, Bool.not_false, List.append_nil, Bool.and_self, ↓lsG_rk]) <;> rfl) (hle : leS n H1 σ N σ h0 (belsK N (h0.map (Fam.rk σ N)) (argsK n args (args0.map (T.rk σ N)) True)) := by repeat' first | refine And.intro ?_ ?_ | exact xeC | fail) : CallK P F args H K := CallK.mk3 hc hap hnl h1 hN hn hH hle hk
set_option maxRecDepth 10000 in
set_option maxHeartbeats 4000000 in
theorem cNew (m lat : Int) (l : List Flt) (c : Nat) (w : Bool) (hl : l.length ≤ 9223372036854775807) :
    Ctr Try.prog 31 [.c (.i .i64 m), .c (.i .i64 lat), .c (.sl 0 0 6 0 l.length c)] [.one (fltR w l c)]
      fun v h => (newE m lat l ≠ 0 ∧ v = .t [.c .nilp, .c (.i .i64 (newE m lat l))] ∧ h = [.one (fltR w l c)]) ∨ 
       (newE m lat l = 0 ∧ ∃ c', v = .t [.c (.p 1 0 0), .c (.i .i64 0)] ∧ h = [.one (fltR w l c), .one (.cells true [.i .i64 m, .i .i64 lat, .sl 2 0 6 0 l.length c', .mp 3 0, .i .i64 0, .i .i64 0, .i .i64 0]), .one (fltR true l c'), .one (mapN 4 [] (fun _ => []) (fun _ => 0) 0), arrs (fun _ => []) (fun _ => 0)]) := by
  refine Ctr.mk' tbv mixed Try.func31 rfl rfl rfl (fun _ _ => by kernel_rfl) (by kernel_rfl) (by rfl) (by rfl) (by (repeat' first | refine And.intro ?_ ?_ | exact xeC | fail)) ?_
  repeat' (first | (fail_if_success (with_reducible refine xstp ?_)); first | ((with_reducible refine And.intro (fun (hb : _ = true) => ?_) (fun (hb : _ = false) => ?_)) <;> replace hb := xnC hb <;> (try first | exact xfC | exact bff hb (by assumption) | exact bff (by assumption) hb)) | (with_reducible refine Both.mk ?_ ?_) | ((with_reducible refine And.intro ?_ ?_); focus exact xoC) | ((with_reducible refine Or.inl ⟨?_, ?_, ?_⟩); (focus rfl); focus exact xaC) | ((with_reducible refine xwB ?_ ?_); focus exact xaC) | ((with_reducible refine xwC ?_ ?_); focus exact xaC) | ((with_reducible refine xwD ?_ ?_); focus exact xaC) | ((with_reducible refine xwE ?_ ?_); focus exact xaC) | (with_reducible intro hc; (try simp only [capsP, and_true] at hc); (try exact xfC)) | ((fail_if_success (with_reducible first | refine xgon ?_ | intro _)); (conv => whnf); (fail_if_success (fail_if_success (with_reducible first | refine xstp ?_ | refine Both.mk ?_ ?_ | refine xgon ?_ | intro _)))))
  all_goals try (
    rw [newE_no (l := l) (show ¬ ((1 ≤ m ∧ m ≤ 8) ∧ (0 ≤ lat ∧ lat ≤ 1099511627776)) by omega)]
    refine FinK.mk ⟨[0], _, _, .inl ⟨by decide, rfl, rfl⟩, ?_⟩
    (repeat' first | refine And.intro ?_ ?_ | exact xeC | fail)
    done)
  · rw [newE_long (l := l) (show (1 ≤ m ∧ m ≤ 8) ∧ (0 ≤ lat ∧ lat ≤ 1099511627776) by omega) (by omega)]
    refine FinK.mk ⟨[0], _, _, .inl ⟨by decide, rfl, rfl⟩, ?_⟩
    (repeat' first | refine And.intro ?_ ?_ | exact xeC | fail)
  have hml : (1 ≤ m ∧ m ≤ 8) ∧ (0 ≤ lat ∧ lat ≤ 1099511627776) := by omega
  refine LoopK.mk' {i : Nat // i ≤ l.length ∧ ∀ j, j < i → okF m (l.getD j default)}
    (fun ⟨i, _⟩ => ⟨[(0, .c (.i .i64 m)), (1, .c (.i .i64 lat)), (2, .c (.sl 0 0 6 0 l.length c)), (28, .c (.sl 0 0 6 0 l.length c)), (29, .c (.i .i64 l.length)), (30, .c (.i .i64 (i : Nat)))],
      [.one (fltR w l c)]⟩) (fun k => l.length - k.1)
    ⟨⟨0, Nat.zero_le _, by intro j h; omega⟩, [0], ?_⟩ ?_
  · (repeat' first | refine And.intro ?_ ?_ | exact xeC | fail)
  rintro ⟨i, hi, hok⟩
  repeat' (first | (fail_if_success (with_reducible refine xstp ?_)); first | ((with_reducible refine And.intro (fun (hb : _ = true) => ?_) (fun (hb : _ = false) => ?_)) <;> replace hb := xnC hb <;> (try first | exact xfC | exact bff hb (by assumption) | exact bff (by assumption) hb)) | (with_reducible refine Both.mk ?_ ?_) | ((with_reducible refine And.intro ?_ ?_); focus exact xoC) | ((with_reducible refine Or.inl ⟨?_, ?_, ?_⟩); (focus rfl); focus exact xaC) | ((with_reducible refine xwB ?_ ?_); focus exact xaC) | ((with_reducible refine xwC ?_ ?_); focus exact xaC) | ((with_reducible refine xwD ?_ ?_); focus exact xaC) | ((with_reducible refine xwE ?_ ?_); focus exact xaC) | (with_reducible intro hc; (try simp only [capsP, and_true] at hc); (try exact xfC)) | ((fail_if_success (with_reducible first | refine xgon ?_ | intro _)); (conv => whnf); (fail_if_success (fail_if_success (with_reducible first | refine xstp ?_ | refine Both.mk ?_ ?_ | refine xgon ?_ | intro _)))))
  · have hlt : i < l.length := by omega
    refine cH15naJ2 (σ := []) (nl := []) (cCheck m (l.getD (0 + ((i : Nat) : Int).toNat) default)) ?_
    rw [Nat.zero_add, Int.toNat_natCast]
    rintro v h' ⟨rfl, rfl⟩ hcaps
    refine rH15naJ0 ?_
    repeat' (first | (fail_if_success (with_reducible refine xstp ?_)); first | ((with_reducible refine And.intro (fun (hb : _ = true) => ?_) (fun (hb : _ = false) => ?_)) <;> replace hb := xnC hb <;> (try first | exact xfC | exact bff hb (by assumption) | exact bff (by assumption) hb)) | (with_reducible refine Both.mk ?_ ?_) | ((with_reducible refine And.intro ?_ ?_); focus exact xoC) | ((with_reducible refine Or.inl ⟨?_, ?_, ?_⟩); (focus rfl); focus exact xaC) | ((with_reducible refine xwB ?_ ?_); focus exact xaC) | ((with_reducible refine xwC ?_ ?_); focus exact xaC) | ((with_reducible refine xwD ?_ ?_); focus exact xaC) | ((with_reducible refine xwE ?_ ?_); focus exact xaC) | (with_reducible intro hc; (try simp only [capsP, and_true] at hc); (try exact xfC)) | ((fail_if_success (with_reducible first | refine xgon ?_ | intro _)); (conv => whnf); (fail_if_success (fail_if_success (with_reducible first | refine xstp ?_ | refine Both.mk ?_ ?_ | refine xgon ?_ | intro _)))))
    · obtain ⟨k1, k2⟩ := chk_ne hb
      rw [k2, newE_bad hml (by omega) hlt k1]
      refine FinK.mk ⟨[0], _, _, .inl ⟨by decide, rfl, rfl⟩, ?_⟩
      (repeat' first | refine And.intro ?_ ?_ | exact xeC | fail)
    · refine ⟨⟨i + 1, by omega, fun j hj => ?_⟩, [0], by simp only; omega, ?_⟩
      · rcases (by omega : j < i ∨ j = i) with h | rfl
        · exact hok j h
        · exact chk_eq hb
      (repeat' first | refine And.intro ?_ ?_ | exact xeC | fail)
  · have hE := newE_ok hml (l := l) (by omega) (fun j hj => hok j (by omega))
    refine cH15naJ2 (σ := [.whole 0]) (nl := []) (cClone l c (by omega) w) ?_
    rintro v h' ⟨c', rfl, rfl⟩ hcaps
    refine rH15naJ1 ?_
    repeat' (first | (fail_if_success (with_reducible refine xstp ?_)); first | ((with_reducible refine And.intro (fun (hb : _ = true) => ?_) (fun (hb : _ = false) => ?_)) <;> replace hb := xnC hb <;> (try first | exact xfC | exact bff hb (by assumption) | exact bff (by assumption) hb)) | (with_reducible refine Both.mk ?_ ?_) | ((with_reducible refine And.intro ?_ ?_); focus exact xoC) | ((with_reducible refine Or.inl ⟨?_, ?_, ?_⟩); (focus rfl); focus exact xaC) | ((with_reducible refine xwB ?_ ?_); focus exact xaC) | ((with_reducible refine xwC ?_ ?_); focus exact xaC) | ((with_reducible refine xwD ?_ ?_); focus exact xaC) | ((with_reducible refine xwE ?_ ?_); focus exact xaC) | (with_reducible intro hc; (try simp only [capsP, and_true] at hc); (try exact xfC)) | ((fail_if_success (with_reducible first | refine xgon ?_ | intro _)); (conv => whnf); (fail_if_success (fail_if_success (with_reducible first | refine xstp ?_ | refine Both.mk ?_ ?_ | refine xgon ?_ | intro _)))))
    rw [hE]
    refine FinK.mk ⟨[0, 3, 1, 2, 99], _, _, .inr ⟨rfl, c', rfl, rfl⟩, ?_⟩
    (repeat' first | refine And.intro ?_ ?_ | exact xeC | fail)
    all_goals first | exact fun _ => rfl | exact fun _ => lsG_bel | (intro i hi; exact absurd hi (Nat.not_lt_zero i)) | skip
def N0 (m lat : Int) (F : List Flt) : Pg := ⟨m, lat, F, fun _ => [], [], 0, 0, 0, 0⟩
def X0 (m lat : Int) (F : List Flt) : Nt := ⟨m, lat, F, [], 0, 0⟩
theorem rl0 (m lat : Int) (F : List Flt) : Rl (N0 m lat F) (X0 m lat F) := by
  have hI : PgI (N0 m lat F) := PgI_of (P := []) ⟨fun i j _ h => absurd h (Nat.not_lt_zero j), fun i j _ h => absurd h (Nat.not_lt_zero j), fun i h => absurd h (Nat.not_lt_zero i), fun i h => absurd h (Nat.not_lt_zero i), fun x h => absurd rfl h⟩ (fun x => rfl) (fun a h => absurd h List.not_mem_nil) rfl
  exact ⟨rfl, rfl, rfl, rfl, rfl, ⟨hI, fun x => rfl, fun a h => absurd h List.not_mem_nil, List.Pairwise.nil⟩, fun a h => absurd h List.not_mem_nil, fun a h => absurd h List.not_mem_nil⟩
/-- Bounds of a network. -/
structure XB (X : Nt) : Prop where
  F : X.F.length ≤ 64
  lat : 0 ≤ X.lat ∧ X.lat ≤ 1099511627776
  ex : ∀ f ∈ X.F, 0 ≤ f.ex ∧ f.ex ≤ 1099511627776
  P : X.P.length ≤ 65601
  cnt : 0 ≤ X.cnt
theorem adds_len {t fr to time : Int} : ∀ (F : List Flt) (P : List Arv) (a : Arv), (adds t fr to time F P a).length ≤ P.length + F.length
  | [], P, a => Nat.le_refl _
  | f :: F, P, a => by
    rw [adds]
    split
    · have := adds_len (t := t) (fr := fr) (to := to) (time := time) F (insA P { a with cp := a.cp + 1, at_ := time + f.ex }) { a with cp := a.cp + 1, at_ := time + f.ex }
      rw [insA_len] at this
      simp only [List.length_cons]
      omega
    · have := adds_len (t := t) (fr := fr) (to := to) (time := time) F P a
      simp only [List.length_cons]
      omega
theorem snd_cnt (X : Nt) (t fr to : Int) (d : ByteArray) : (snd X t fr to d).cnt = if sndE X t fr to d = 0 then X.cnt + 1 else X.cnt := by
  unfold snd
  split <;> rfl
theorem snd_F (X : Nt) (t fr to : Int) (d : ByteArray) : (snd X t fr to d).F = X.F ∧ (snd X t fr to d).lat = X.lat ∧ (snd X t fr to d).m = X.m := by
  unfold snd
  split <;> exact ⟨rfl, rfl, rfl⟩
theorem XB.snd {X : Nt} (h : XB X) (t fr to : Int) (d : ByteArray) : XB (Go.Proofs.Ytgaodeffbgppmaa.Nw.snd X t fr to d) := by
  obtain ⟨f1, f2, f3⟩ := snd_F X t fr to d
  refine ⟨by rw [f1]; exact h.F, by rw [f2]; exact h.lat, by rw [f1]; exact h.ex, ?_, by rw [snd_cnt]; have := h.cnt; split <;> omega⟩
  unfold Go.Proofs.Ytgaodeffbgppmaa.Nw.snd
  split
  · rename_i h0
    have hl : X.P.length < 65536 := by
      unfold sndE at h0
      by_cases h1 : okS X t fr to
      · by_cases h2 : 4000 < d.size
        · rw [if_neg (not_not_intro h1), if_pos h2] at h0; cases h0
        · by_cases h3 : t < X.last
          · rw [if_neg (not_not_intro h1), if_neg h2, if_pos h3] at h0; cases h0
          · by_cases h4 : 65536 ≤ X.P.length
            · rw [if_neg (not_not_intro h1), if_neg h2, if_neg h3, if_pos h4] at h0; cases h0
            · omega
      · rw [if_pos h1] at h0; cases h0
    have hF := h.F
    show (sndP X t fr to d).length ≤ 65601
    unfold sndP
    split
    · omega
    · rename_i x _
      have := adds_len (t := t) (fr := fr) (to := to) (time := x) X.F (insA X.P ⟨x, fr, to, X.cnt + 1, 0, d⟩) ⟨x, fr, to, X.cnt + 1, 0, d⟩
      rw [insA_len] at this
      omega
  · exact h.P
theorem pgSend_F (N : Pg) (t fr to : Int) (d : ByteArray) : (pgSend N t fr to d).F = N.F := by
  unfold pgSend
  split
  · split
    · rfl
    · exact (adN_keep _ _ _ _).2.2.1
  · rfl
def rcv (X : Nt) (u : Int) : Nt := { X with P := rcvQ u X.P, last := max X.last u }
theorem XB.rcv {X : Nt} (h : XB X) (u : Int) : XB (Go.Proofs.Ytgaodeffbgppmaa.Nw.rcv X u) := ⟨h.F, h.lat, h.ex, Nat.le_trans (List.length_filter_le ..) h.P, h.cnt⟩
theorem Rl.cntb {N : Pg} {X : Nt} (h : Rl N X) (hb : XB X) : N.cnt ≤ 66000 := by
  have := h.c.cnt
  have := hb.P
  omega
theorem cSend3 {N : Pg} {X : Nt} (hr : Rl N X) (hb : XB X) (hcn : X.cnt ≤ 1099511627776) (c : Nat) (cs : Nat → Nat) (t a b : Int) (d : ByteArray) :
    Ctr Try.prog 32 [.c (.p 0 0 0), .c (.i .i64 t), .c (.i .i64 a), .c (.i .i64 b), .c (.s d)] (pgH N c cs)
      fun v h => ∃ N' cs', Rl N' (snd X t a b d) ∧ v = .t [.c (.i .i64 (if sndE X t a b d = 0 then X.cnt + 1 else 0)), .c (.i .i64 (sndE X t a b d))] ∧ h = [.one (pgC N' c), .one (fltR true N'.F c), .one (mapN 4 N'.M N'.D cs' N'.ck), .one .no, arrs N'.D cs'] := by
  obtain ⟨e1, e2⟩ := hr.snd hb.lat.1 (fun f hf => (hb.ex f hf).1) t a b d
  refine (cSend N c cs t a b d hr.c.I (by rw [hr.F]; exact hb.F) (by rw [hr.lat]; exact hb.lat) (by rw [hr.F]; exact hb.ex) (hr.cntb hb) (by rw [hr.sent]; exact ⟨hb.cnt, hcn⟩)).mono' ?_
  rintro v h' ⟨cs', rfl, rfl⟩
  exact ⟨pgSend N t a b d, cs', e2, by rw [e1, hr.sent], by rw [pgSend_F]⟩
theorem cRecv3 {N : Pg} {X : Nt} (hr : Rl N X) (hb : XB X) (c : Nat) (cs : Nat → Nat) (u : Int) :
    Ctr Try.prog 33 [.c (.p 0 0 0), .c (.i .i64 u)] [.one (pgC N c), .one .no, .one (mapN 3 N.M N.D cs N.ck), arrs N.D cs]
      fun v h => ∃ N' c1, Rl N' (rcv X u) ∧ N'.F = N.F ∧ v = .c (.sl 4 0 5 0 (rcvP u X.P).length c1) ∧ h = [.one (pgC N' c), .one .no, .one (mapN 3 N'.M N'.D cs N'.ck), arrs N'.D cs, .one (arvP (rcvP u X.P) c1)] := by
  refine (cRecv N c cs u hr.c.I (by have := hr.cntb hb; omega)).mono' ?_
  rintro v h' ⟨ts, M', c1, rfl, rfl, hO, hp, hm⟩
  obtain ⟨e1, e2⟩ := hr.recv hp hm hO
  exact ⟨{ N with now := max N.now u, cnt := N.cnt - (ts.flatMap fun t => N.D t.toNat).length, M := M', D := dropD N.D ts }, c1, e2, rfl, by rw [e1], by rw [e1]⟩
end Go.Proofs.Ytgaodeffbgppmaa.Nw


namespace Go.Proofs.Ytgaodeffbgppmaa.Nw
open Go.X
set_option linter.unusedSimpArgs false
set_option linter.unusedVariables false
structure Opn where
  (kd at_ fr to : Int) (d : ByteArray)
instance : Inhabited Opn := ⟨⟨0, 0, 0, 0, ByteArray.empty⟩⟩
end Go.Proofs.Ytgaodeffbgppmaa.Nw


namespace Go.Proofs.Ytgaodeffbgppmaa.Nw
open Go.X
set_option linter.unusedSimpArgs false
set_option linter.unusedVariables false
end Go.Proofs.Ytgaodeffbgppmaa.Nw


namespace Go.Proofs.Ytgaodeffbgppmaa.Nw
open Go.X
set_option linter.unusedSimpArgs false
set_option linter.unusedVariables false
def sentF : List Opn → Nt → List Arv → Nt × List Arv
  | [], X, L => (X, L)
  | o :: O, X, L => if sndE X o.at_ o.fr o.to o.d = 0 then sentF O (snd X o.at_ o.fr o.to o.d) (L ++ [⟨o.at_, o.fr, o.to, X.cnt + 1, 0, o.d⟩]) else sentF O X L
end Go.Proofs.Ytgaodeffbgppmaa.Nw


namespace Go.Proofs.Ytgaodeffbgppmaa.Nw
open Go.X
set_option linter.unusedSimpArgs false
set_option linter.unusedVariables false
end Go.Proofs.Ytgaodeffbgppmaa.Nw


namespace Go.Proofs.Ytgaodeffbgppmaa.Nw
open Go.X
set_option linter.unusedSimpArgs false
set_option linter.unusedVariables false
theorem insA_perm (P : List Arv) (a : Arv) : (insA P a).Perm (a :: P) := by
  unfold insA insI
  have h := List.perm_middle (a := a) (l₁ := P.take (posA P a)) (l₂ := P.drop (posA P a))
  rw [List.take_append_drop] at h
  exact h
def nw (time no fr to : Int) (d : ByteArray) (p : Arv) : Prop := p.no = no ∧ p.fr = fr ∧ p.to = to ∧ p.d = d ∧ time ≤ p.at_
theorem adds_perm {t fr to time : Int} : ∀ (F : List Flt) (P : List Arv) (a : Arv), (∀ f ∈ F, 0 ≤ f.ex) → ∃ E : List Arv, (adds t fr to time F P a).Perm (E ++ P) ∧ E.length = (frc F 3 t fr to).length ∧ ∀ p ∈ E, nw time a.no a.fr a.to a.d p
  | [], P, a, _ => ⟨[], List.Perm.refl _, rfl, fun p hp => absurd hp List.not_mem_nil⟩
  | f :: F, P, a, hx => by
    have hx' : ∀ g ∈ F, 0 ≤ g.ex := fun g hg => hx g (List.mem_cons_of_mem _ hg)
    have h0 := hx f (List.mem_cons_self ..)
    rw [adds, frc_cons]
    split
    · obtain ⟨E, e1, e2, e3⟩ := adds_perm (t := t) (fr := fr) (to := to) (time := time) F (insA P { a with cp := a.cp + 1, at_ := time + f.ex }) { a with cp := a.cp + 1, at_ := time + f.ex } hx'
      refine ⟨{ a with cp := a.cp + 1, at_ := time + f.ex } :: E, ?_, by simp [e2], fun p hp => ?_⟩
      · refine e1.trans (((insA_perm P _).append_left E).trans ?_)
        exact List.perm_middle
      · rcases List.mem_cons.1 hp with rfl | hp
        · exact ⟨rfl, rfl, rfl, rfl, by show time ≤ time + f.ex; omega⟩
        · exact e3 p hp
    · exact adds_perm F P a hx'
def cpF (F : List Flt) : Nat := 1 + (F.filter fun f => decide (f.kd = 3)).length
theorem frc_cp (F : List Flt) (t fr to : Int) : 1 + (frc F 3 t fr to).length ≤ cpF F := by
  have h : (frc F 3 t fr to).length ≤ (F.filter fun f => decide (f.kd = 3)).length := by
    unfold frc
    induction F with
    | nil => exact Nat.le_refl _
    | cons f F ih =>
      rw [List.filter_cons, List.filter_cons]
      by_cases h3 : f.kd = 3
      · rw [if_pos (show decide (f.kd = 3) = true from decide_eq_true h3)]
        split
        · simp only [List.length_cons]; omega
        · simp only [List.length_cons]; omega
      · rw [if_neg (show ¬ decide (f.kd = 3) = true by simpa using h3), if_neg (show ¬ decide (f.kd = 3 ∧ apl f t fr to) = true by simp [h3])]
        exact ih
  unfold cpF
  omega
theorem sndP_perm {X : Nt} (hx : XB X) {t fr to : Int} (d : ByteArray) : ∃ E : List Arv, (sndP X t fr to d).Perm (E ++ X.P) ∧ E.length ≤ cpF X.F ∧ ∀ p ∈ E, nw (t + X.lat) (X.cnt + 1) fr to d p := by
  unfold sndP
  rw [scn_eq]
  split
  · exact ⟨[], List.Perm.refl _, Nat.zero_le _, fun p hp => absurd hp List.not_mem_nil⟩
  · rename_i q hq
    split at hq
    · cases hq
    · obtain rfl := Option.some.inj hq
      have hex : ∀ f ∈ X.F, 0 ≤ f.ex := fun f hf => (hx.ex f hf).1
      have hs := sumX_ge (frc X.F 2 t fr to) (t + X.lat) (fun f hf => hex f (frc_mem hf))
      obtain ⟨E, e1, e2, e3⟩ := adds_perm (t := t) (fr := fr) (to := to) (time := sumX (frc X.F 2 t fr to) (t + X.lat)) X.F (insA X.P ⟨sumX (frc X.F 2 t fr to) (t + X.lat), fr, to, X.cnt + 1, 0, d⟩) ⟨sumX (frc X.F 2 t fr to) (t + X.lat), fr, to, X.cnt + 1, 0, d⟩ hex
      refine ⟨⟨sumX (frc X.F 2 t fr to) (t + X.lat), fr, to, X.cnt + 1, 0, d⟩ :: E, e1.trans (((insA_perm X.P _).append_left E).trans List.perm_middle), ?_, fun p hp => ?_⟩
      · have := frc_cp X.F t fr to
        simp only [List.length_cons]
        omega
      · rcases List.mem_cons.1 hp with rfl | hp
        · exact ⟨rfl, rfl, rfl, rfl, hs⟩
        · obtain ⟨q1, q2, q3, q4, q5⟩ := e3 p hp
          exact ⟨q1, q2, q3, q4, by omega⟩
/-- What a script's arrivals are. -/
structure CI (X : Nt) (L : List Arv) : Prop where
  cnt : X.cnt = L.length
  mem : ∀ a ∈ X.P, 1 ≤ a.no ∧ a.no ≤ L.length ∧ nw ((L.getD (a.no - 1).toNat default).at_ + X.lat) a.no (L.getD (a.no - 1).toNat default).fr (L.getD (a.no - 1).toNat default).to (L.getD (a.no - 1).toNat default).d a
  each : ∀ k : Int, (X.P.filter fun a => decide (a.no = k)).length ≤ cpF X.F
  all : X.P.length ≤ cpF X.F * L.length
  lat : ∀ a ∈ L, 0 ≤ a.at_ ∧ a.at_ ≤ 1099511627776
theorem CI.snd {X : Nt} {L : List Arv} (hx : XB X) (h : CI X L) {t fr to : Int} {d : ByteArray} (h0 : sndE X t fr to d = 0) : CI (Go.Proofs.Ytgaodeffbgppmaa.Nw.snd X t fr to d) (L ++ [⟨t, fr, to, X.cnt + 1, 0, d⟩]) := by
  have hS : Go.Proofs.Ytgaodeffbgppmaa.Nw.snd X t fr to d = { X with P := sndP X t fr to d, cnt := X.cnt + 1, last := t } := if_pos h0
  rw [hS]
  have hok : okS X t fr to := by
    by_cases hk : okS X t fr to
    · exact hk
    · unfold sndE at h0
      rw [if_pos hk] at h0
      cases h0
  obtain ⟨E, e1, e2, e3⟩ := sndP_perm hx (t := t) (fr := fr) (to := to) d
  have hc := h.cnt
  refine ⟨by show X.cnt + 1 = _; rw [List.length_append, List.length_singleton, hc]; push_cast; rfl, fun a ha => ?_, fun k => ?_, ?_, fun a ha => ?_⟩
  · show 1 ≤ a.no ∧ a.no ≤ _ ∧ nw (_ + X.lat) _ _ _ _ a
    rw [List.length_append, List.length_singleton]
    rcases List.mem_append.1 (e1.mem_iff.1 ha) with ha | ha
    · obtain ⟨q1, q2, q3, q4, q5⟩ := e3 a ha
      have hg : (L ++ [(⟨t, fr, to, X.cnt + 1, 0, d⟩ : Arv)]).getD (a.no - 1).toNat default = ⟨t, fr, to, X.cnt + 1, 0, d⟩ := by
        rw [getD_snoc (by simp; omega), if_pos (by omega)]
      rw [hg]
      exact ⟨by omega, by omega, rfl, q2, q3, q4, q5⟩
    · obtain ⟨m1, m2, m3⟩ := h.mem a ha
      rw [getD_snoc (by simp; omega), if_neg (by omega)]
      exact ⟨m1, by omega, m3⟩
  · show ((sndP X t fr to d).filter _).length ≤ cpF X.F
    rw [(e1.filter _).length_eq, List.filter_append, List.length_append]
    by_cases hk : k = X.cnt + 1
    · have h1 : X.P.filter (fun a => decide (a.no = k)) = [] := by
        rw [List.filter_eq_nil_iff]
        intro a ha h2
        have := (h.mem a ha).2.1
        have : a.no = k := by simpa using h2
        omega
      rw [h1, List.length_nil]
      have := List.length_filter_le (fun a : Arv => decide (a.no = k)) E
      omega
    · have h1 : E.filter (fun a => decide (a.no = k)) = [] := by
        rw [List.filter_eq_nil_iff]
        intro a ha h2
        have := (e3 a ha).1
        have : a.no = k := by simpa using h2
        omega
      rw [h1, List.length_nil, Nat.zero_add]
      exact h.each k
  · show (sndP X t fr to d).length ≤ cpF X.F * _
    rw [e1.length_eq, List.length_append, List.length_append, List.length_singleton, Nat.mul_add, Nat.mul_one]
    have := h.all
    omega
  · rcases List.mem_append.1 ha with ha | ha
    · exact h.lat a ha
    · rw [List.mem_singleton.1 ha]
      exact hok.2
theorem CI.sent : ∀ (O : List Opn) {X X' : Nt} {L L' : List Arv}, sentF O X L = (X', L') → XB X → CI X L → CI X' L' ∧ X'.F = X.F ∧ X'.lat = X.lat
  | [], X, X', L, L', h, _, hc => by
    rw [sentF] at h
    obtain ⟨rfl, rfl⟩ := Prod.mk.inj h
    exact ⟨hc, rfl, rfl⟩
  | o :: O, X, X', L, L', h, hx, hc => by
    rw [sentF] at h
    by_cases h0 : sndE X o.at_ o.fr o.to o.d = 0
    · rw [if_pos h0] at h
      have := CI.sent O h (hx.snd _ _ _ _) (hc.snd hx h0)
      obtain ⟨f1, f2, _⟩ := snd_F X o.at_ o.fr o.to o.d
      rw [f1, f2] at this
      exact this
    · rw [if_neg h0] at h
      exact CI.sent O h hx hc
end Go.Proofs.Ytgaodeffbgppmaa.Nw


namespace Go.Proofs.Ytgaodeffbgppmaa
open Go.RowKit
namespace P4


def vE : Nat → Nat → List UInt8
  | 0, n => [UInt8.ofNat n]
  | k + 1, n => if n < 128 then [UInt8.ofNat n] else UInt8.ofNat (128 + n % 128) :: vE k (n / 128)
def venc (n : Nat) : List UInt8 := vE 9 n
def vD : Nat → Nat → List UInt8 → Nat → Nat × Nat × Nat
  | 0, _, _, _ => (0, 0, 2)
  | _ + 1, _, [], _ => (0, 0, 1)
  | r + 1, i, c :: l, acc =>
    if r = 0 ∧ 1 < c.toNat then (0, 0, 2)
    else if 128 ≤ c.toNat then vD r (i + 1) l (acc + c.toNat % 128 * 128 ^ i)
    else if c.toNat = 0 ∧ 0 < i then (0, 0, 2)
    else (acc + c.toNat % 128 * 128 ^ i, i + 1, 0)
def vdec (l : List UInt8) : Nat × Nat × Nat := vD 10 0 l 0

theorem ofNat_lt {n : Nat} (h : n < 256) : (UInt8.ofNat n).toNat = n := by rw [UInt8.toNat_ofNat', Nat.mod_eq_of_lt h]
theorem vE_pos (r n : Nat) : 1 ≤ (vE r n).length := by
  cases r with
  | zero => exact Nat.le_refl _
  | succ r => unfold vE; split <;> simp
theorem vE_le (r : Nat) : ∀ n, (vE r n).length ≤ r + 1 := by
  induction r with
  | zero => intro n; exact Nat.le_refl _
  | succ r ih => intro n; unfold vE; split
                 · simp
                 · rw [List.length_cons]; have := ih (n / 128); omega
theorem dec_enc (r : Nat) : ∀ (i n acc : Nat) (l : List UInt8), n < 2 * 128 ^ r → (i = 0 ∨ 0 < n) → vD (r + 1) i (vE r n ++ l) acc = (acc + n * 128 ^ i, i + (vE r n).length, 0) := by
  induction r with
  | zero =>
    intro i n acc l hn hi
    have hn2 : n < 2 := by simpa using hn
    have e : (UInt8.ofNat n).toNat = n := ofNat_lt (by omega)
    show (if 0 = 0 ∧ 1 < (UInt8.ofNat n).toNat then _ else _) = _
    rw [e, if_neg (by omega), if_neg (by omega), if_neg (by omega), Nat.mod_eq_of_lt (by omega)]
    rfl
  | succ r ih =>
    intro i n acc l hn hi
    by_cases h : n < 128
    · have e : (UInt8.ofNat n).toNat = n := ofNat_lt (by omega)
      rw [show vE (r + 1) n = [UInt8.ofNat n] from by unfold vE; rw [if_pos h]]
      show (if r + 1 = 0 ∧ 1 < (UInt8.ofNat n).toNat then _ else _) = _
      rw [e, if_neg (by omega), if_neg (by omega), if_neg (by omega), Nat.mod_eq_of_lt h]
      rfl
    · have e : (UInt8.ofNat (128 + n % 128)).toNat = 128 + n % 128 := ofNat_lt (by omega)
      rw [show vE (r + 1) n = UInt8.ofNat (128 + n % 128) :: vE r (n / 128) from by conv => lhs; unfold vE; rw [if_neg h]]
      show (if r + 1 = 0 ∧ 1 < (UInt8.ofNat (128 + n % 128)).toNat then _ else if 128 ≤ (UInt8.ofNat (128 + n % 128)).toNat then vD (r + 1) (i + 1) (vE r (n / 128) ++ l) (acc + (UInt8.ofNat (128 + n % 128)).toNat % 128 * 128 ^ i) else _) = _
      rw [e, if_neg (by omega), if_pos (by omega), ih (i + 1) (n / 128) _ l (by rw [Nat.pow_succ] at hn; omega) (.inr (by omega))]
      rw [show (128 + n % 128) % 128 = n % 128 from by omega, Nat.pow_succ]
      have key : acc + n % 128 * 128 ^ i + n / 128 * (128 ^ i * 128) = acc + n * 128 ^ i := by
        rw [Nat.add_assoc, show n / 128 * (128 ^ i * 128) = (n / 128 * 128) * 128 ^ i from by ac_rfl, ← Nat.add_mul]
        congr 2
        omega
      rw [key, List.length_cons]
      congr 2
      omega
theorem enc_dec (r : Nat) : ∀ (i : Nat) (l : List UInt8) (acc n k : Nat), vD (r + 1) i l acc = (n, k, 0) →
    ∃ m, n = acc + m * 128 ^ i ∧ m < 2 * 128 ^ r ∧ (0 < i → 0 < m) ∧ k = i + (vE r m).length ∧ (vE r m).length ≤ l.length ∧ l.take (vE r m).length = vE r m := by
  induction r with
  | zero =>
    intro i l acc n k h
    match l, h with
    | [], h => simp [vD] at h
    | c :: l, h =>
      simp only [vD] at h
      by_cases h1 : 1 < c.toNat
      · rw [if_pos ⟨trivial, h1⟩] at h; simp at h
      · rw [if_neg (by omega), if_neg (by omega)] at h
        by_cases h2 : c.toNat = 0 ∧ 0 < i
        · rw [if_pos h2] at h; simp at h
        · rw [if_neg h2] at h
          simp only [Prod.mk.injEq] at h
          have ec : UInt8.ofNat c.toNat = c := by simp
          refine ⟨c.toNat, ?_, by omega, by omega, by rw [← h.2.1]; rfl, by simp [vE], by simp [vE]⟩
          rw [← h.1, Nat.mod_eq_of_lt (by omega)]
  | succ r ih =>
    intro i l acc n k h
    match l, h with
    | [], h => simp [vD] at h
    | c :: l, h =>
      have hc := c.toNat_lt
      rw [vD, if_neg (by omega)] at h
      by_cases h2 : 128 ≤ c.toNat
      · rw [if_pos h2] at h
        obtain ⟨m, h3, h4, h5, h6, h7, h8⟩ := ih _ _ _ _ _ h
        have hm : 0 < m := h5 (by omega)
        have em : vE (r + 1) (128 * m + c.toNat % 128) = c :: vE r m := by
          conv => lhs; unfold vE
          rw [if_neg (by omega), show (128 * m + c.toNat % 128) / 128 = m from by omega, show 128 + (128 * m + c.toNat % 128) % 128 = c.toNat from by omega]
          simp
        refine ⟨128 * m + c.toNat % 128, ?_, ?_, by omega, ?_, ?_, ?_⟩
        · rw [h3, Nat.pow_succ, Nat.add_mul, Nat.add_assoc, Nat.add_comm (128 * m * 128 ^ i)]
          congr 2
          ac_rfl
        · rw [Nat.pow_succ]; omega
        · rw [em, h6, List.length_cons]; omega
        · rw [em, List.length_cons, List.length_cons]; omega
        · rw [em, List.length_cons, List.take_succ_cons, h8]
      · rw [if_neg h2] at h
        by_cases h3 : c.toNat = 0 ∧ 0 < i
        · rw [if_pos h3] at h; simp at h
        · rw [if_neg h3] at h
          simp only [Prod.mk.injEq] at h
          have ec : vE (r + 1) c.toNat = [c] := by unfold vE; rw [if_pos (by omega)]; simp
          refine ⟨c.toNat, by rw [← h.1, Nat.mod_eq_of_lt (by omega)], ?_, by omega, by rw [← h.2.1, ec]; rfl, by rw [ec]; simp, by rw [ec]; simp⟩
          have : 128 ^ (r + 1) ≥ 128 := by rw [Nat.pow_succ]; have := Nat.pow_pos (n := r) (show 0 < 128 by decide); omega
          omega

theorem vD_err (r : Nat) : ∀ (i : Nat) (l : List UInt8) (acc : Nat), (vD r i l acc).2.2 = 0 ∨ vD r i l acc = (0, 0, 1) ∨ vD r i l acc = (0, 0, 2) := by
  induction r with
  | zero => intro i l acc; exact .inr (.inr rfl)
  | succ r ih =>
    intro i l acc
    match l with
    | [] => exact .inr (.inl rfl)
    | c :: l =>
      rw [vD]
      split
      · exact .inr (.inr rfl)
      · split
        · exact ih _ _ _
        · split
          · exact .inr (.inr rfl)
          · exact .inl rfl
theorem vdec_enc (n : Nat) (l : List UInt8) (h : n < 18446744073709551616) : vdec (venc n ++ l) = (n, (venc n).length, 0) := by
  have := dec_enc 9 0 n 0 l (by omega) (.inl rfl)
  unfold vdec venc
  rw [this]
  simp
theorem vdec_ok {l : List UInt8} {n k : Nat} (h : vdec l = (n, k, 0)) : n < 18446744073709551616 ∧ k = (venc n).length ∧ k ≤ l.length ∧ l.take k = venc n ∧ 1 ≤ k := by
  obtain ⟨m, h1, h2, _, h3, h4, h5⟩ := enc_dec 9 0 l 0 n k h
  have hm : n = m := by simpa using h1
  subst hm
  have hk : k = (vE 9 n).length := by omega
  have := vE_pos 9 n
  refine ⟨by omega, hk, by omega, by rw [hk]; exact h5, by omega⟩
theorem vdec_err (l : List UInt8) : (vdec l).2.2 = 0 ∨ vdec l = (0, 0, 1) ∨ vdec l = (0, 0, 2) := vD_err 10 0 l 0

def zz (m : Int) : Nat := if m < 0 then (2 * -(m + 1) + 1).toNat else (2 * m).toNat
theorem xor_comm (k : IntKind) (x y : Int) : bits .xor k x y = bits .xor k y x := by
  unfold bits
  simp [BitVec.xor_comm]
theorem or128 (m : Nat) : bits .or .u8 ((m : Int) % 256) 128 = ((UInt8.ofNat (128 + m % 128)).toNat : Int) := by
  have h : ∀ x : Fin 256, x.val ||| 128 = 128 + x.val % 128 := by decide +kernel
  have e := h ⟨m % 256, by omega⟩
  rw [show ((m : Int) % 256) = ((m % 256 : Nat) : Int) from by omega, show (128 : Int) = ((128 : Nat) : Int) from rfl, u8_or_nat _ _ (by omega) (by omega), ofNat_lt (by omega)]
  simp only at e
  rw [e]
  congr 2
  omega

theorem pow128 (k : Nat) : 128 ^ k = 2 ^ (7 * k) := by rw [Nat.pow_mul]
theorem and127 (c : UInt8) : bits .and .u8 (c.toNat : Int) 127 = ((c.toNat % 128 : Nat) : Int) := by
  rw [show (127 : Int) = ((127 : Nat) : Int) from rfl, u8_and_nat _ _ c.toNat_lt (by omega), nat_mask7]
theorem orstep (a k : Nat) (c : UInt8) (ha : a < 128 ^ k) (hk : k ≤ 8 ∨ (k = 9 ∧ c.toNat ≤ 1)) :
    bits .or .u64 (a : Int) (IntKind.u64.wrap (IntKind.u64.wrap (bits .and .u8 (c.toNat : Int) 127) * 2 ^ (7 * k))) = ((a + c.toNat % 128 * 128 ^ k : Nat) : Int) := by
  have h1 : IntKind.u64.wrap (((c.toNat % 128 : Nat) : Int)) = ((c.toNat % 128 : Nat) : Int) := by rw [IntKind.wrap_u64]; omega
  have hlim : c.toNat % 128 * 128 ^ k < 18446744073709551616 ∧ 128 ^ k < 18446744073709551616 := by
    rcases hk with hk | ⟨rfl, hc⟩
    · have h2 : 128 ^ k ≤ 128 ^ 8 := Nat.pow_le_pow_right (by decide) hk
      have h3 : c.toNat % 128 * 128 ^ k ≤ 127 * 128 ^ 8 := Nat.mul_le_mul (by omega) h2
      omega
    · have h3 : c.toNat % 128 ≤ 1 := by omega
      have h4 : c.toNat % 128 * 128 ^ 9 ≤ 1 * 128 ^ 9 := Nat.mul_le_mul_right _ h3
      omega
  have h2 : ((c.toNat % 128 : Nat) : Int) * 2 ^ (7 * k) = ((c.toNat % 128 * 128 ^ k : Nat) : Int) := by rw [pow128]; simp
  rw [and127, h1, h2, IntKind.wrap_u64]
  have h5 : (((c.toNat % 128 * 128 ^ k : Nat) : Int) % 18446744073709551616) = ((c.toNat % 128 * 128 ^ k : Nat) : Int) := by
    have := hlim.1
    omega
  rw [h5, u64_or_nat _ _ (by omega) hlim.1, Nat.or_comm, nat_join (7 * k) _ _ (by rw [← pow128]; exact Nat.mul_mod_left _ _) (by rw [← pow128]; exact ha), Nat.add_comm]

end P4
end Go.Proofs.Ytgaodeffbgppmaa


namespace Go.Proofs.Ytgaodeffbgppmaa
open Go.X
set_option linter.unusedSimpArgs false
set_option linter.unusedVariables false
namespace P4
def tri (x : Nat × Nat × Nat) : T := .t [.c (.i .u64 (x.1 : Nat)), .c (.i .i64 (x.2.1 : Nat)), .c (.i .i64 (x.2.2 : Nat))]
theorem drop_cons {s : ByteArray} {k : Nat} (h : k < s.size) : s.data.toList.drop k = s.get! k :: s.data.toList.drop (k + 1) := by
  have h' : k < s.data.toList.length := by simpa using h
  rw [List.drop_eq_getElem_cons h']
  congr 1
  simp [ByteArray.get!, getElem!_pos, h]
theorem vd_at {s : ByteArray} {p k a : Nat} (hk : k ≤ 9) (h : p < s.size) : vD (10 - k) k (s.data.toList.drop p) a =
    if 9 - k = 0 ∧ 1 < (s.get! p).toNat then (0, 0, 2) else if 128 ≤ (s.get! p).toNat then vD (9 - k) (k + 1) (s.data.toList.drop (p + 1)) (a + (s.get! p).toNat % 128 * 128 ^ k)
    else if (s.get! p).toNat = 0 ∧ 0 < k then (0, 0, 2) else (a + (s.get! p).toNat % 128 * 128 ^ k, k + 1, 0) := by
  rw [drop_cons h, show 10 - k = (9 - k) + 1 by omega]
  rfl
theorem vd_end {s : ByteArray} {p k a : Nat} (hk : k ≤ 9) (h : s.size ≤ p) : vD (10 - k) k (s.data.toList.drop p) a = (0, 0, 1) := by
  rw [List.drop_of_length_le (by simpa using h), show 10 - k = (9 - k) + 1 by omega]
  rfl
theorem vd_big {s : ByteArray} {p k a : Nat} (hk : k = 9) (h : p < s.size) (hc : 1 < (s.get! p).toNat) : vD (10 - k) k (s.data.toList.drop p) a = (0, 0, 2) := by
  rw [vd_at (by omega) h, if_pos ⟨by omega, hc⟩]
theorem vd_go {s : ByteArray} {p k a : Nat} (hk : k ≤ 8) (h : p < s.size) (hc : 128 ≤ (s.get! p).toNat) : vD (10 - k) k (s.data.toList.drop p) a = vD (10 - (k + 1)) (k + 1) (s.data.toList.drop (p + 1)) (a + (s.get! p).toNat % 128 * 128 ^ k) := by
  rw [vd_at (by omega) h, if_neg (by omega), if_pos hc, show 9 - k = 10 - (k + 1) by omega]
theorem vd_zero {s : ByteArray} {p k a : Nat} (hk : k ≤ 9) (h0 : 0 < k) (h : p < s.size) (hc : (s.get! p).toNat = 0) : vD (10 - k) k (s.data.toList.drop p) a = (0, 0, 2) := by
  rw [vd_at (by omega) h, if_neg (by omega), if_neg (by omega), if_pos ⟨hc, h0⟩]
theorem vd_ok {s : ByteArray} {p k a : Nat} (hk : k ≤ 9) (h : p < s.size) (h9 : k = 9 → (s.get! p).toNat ≤ 1) (hc : (s.get! p).toNat < 128) (h0 : k = 0 ∨ (s.get! p).toNat ≠ 0) : vD (10 - k) k (s.data.toList.drop p) a = (a + (s.get! p).toNat % 128 * 128 ^ k, k + 1, 0) := by
  rw [vd_at (by omega) h, if_neg (by omega), if_neg (by omega), if_neg (by omega)]
theorem shr7 (m : Nat) : ((m : Nat) : Int).fdiv (2 ^ min (Int.toNat 7) IntKind.u64.bits) = ((m / 128 : Nat) : Int) := by
  rw [show (2 : Int) ^ min (Int.toNat 7) IntKind.u64.bits = 128 from rfl, Int.fdiv_eq_ediv_of_nonneg _ (by omega)]
  omega
theorem wrap8 (m : Nat) : IntKind.u8.wrap (m : Int) = (m : Int) % 256 := by simp [IntKind.wrap, IntKind.signed, IntKind.bits]
theorem at_nat (a k : Nat) : ((a : Int) + (k : Int)).toNat = a + k := by omega
theorem ornum {a k : Nat} {c : UInt8} (ha : a < 128 ^ k) (hk : k ≤ 8 ∨ (k = 9 ∧ c.toNat ≤ 1)) :
    IntKind.u64.wrap (BitVec.ofInt IntKind.u64.bits (a : Int) ||| BitVec.ofInt IntKind.u64.bits (IntKind.u64.wrap (IntKind.u64.wrap (IntKind.u8.wrap (BitVec.ofInt IntKind.u8.bits (c.toNat : Int) &&& BitVec.ofInt IntKind.u8.bits 127).toNat) * 2 ^ min (7 * (k : Int)).toNat IntKind.u64.bits))).toNat = ((a + c.toNat % 128 * 128 ^ k : Nat) : Int) := by
  rw [show min (7 * (k : Int)).toNat IntKind.u64.bits = 7 * k by show min _ 64 = _; omega]
  exact orstep a k c ha hk
theorem size_len (s : ByteArray) : s.data.toList.length = s.size := by simp
end P4
open P4
set_option maxRecDepth 10000 in
theorem cvarint (s : ByteArray) (hs : s.size ≤ 140737488355328) :
    Ctr Try.prog 75 [.c (.s s)] [] fun v h => v = tri (vdec s.data.toList) ∧ h = [] := by
  refine Ctr.mk' tbv mixed Try.func75 rfl rfl rfl (fun _ _ => by kernel_rfl) (by kernel_rfl) (by rfl) (by rfl) (by (repeat' first | refine And.intro ?_ ?_ | exact xeC | fail)) ?_
  repeat' (first | (fail_if_success (with_reducible refine xstp ?_)); first | ((with_reducible refine And.intro (fun (hb : _ = true) => ?_) (fun (hb : _ = false) => ?_)) <;> replace hb := xnC hb <;> (try first | exact xfC | exact bff hb (by assumption) | exact bff (by assumption) hb)) | (with_reducible refine Both.mk ?_ ?_) | ((with_reducible refine And.intro ?_ ?_); focus exact xoC) | ((with_reducible refine Or.inl ⟨?_, ?_, ?_⟩); (focus rfl); focus exact xaC) | ((with_reducible refine xwB ?_ ?_); focus exact xaC) | ((with_reducible refine xwC ?_ ?_); focus exact xaC) | ((with_reducible refine xwD ?_ ?_); focus exact xaC) | ((with_reducible refine xwE ?_ ?_); focus exact xaC) | (with_reducible intro hc; (try simp only [capsP, and_true] at hc); (try exact xfC)) | ((fail_if_success (with_reducible first | refine xgon ?_ | intro _)); (conv => whnf); (fail_if_success (fail_if_success (with_reducible first | refine xstp ?_ | refine Both.mk ?_ ?_ | refine xgon ?_ | intro _)))))
  refine LoopK.mk' {p : Nat × Nat // p.1 ≤ 10 ∧ p.1 ≤ s.size ∧ p.2 < 128 ^ p.1 ∧ vD (10 - p.1) p.1 (s.data.toList.drop p.1) p.2 = vdec s.data.toList}
    (fun ⟨(k, a), _⟩ => ⟨[(0, .c (.s s)), (5, .c (.i .u64 (a : Nat))), (8, .c (.i .i64 (k : Nat)))], []⟩) (fun k => 10 - k.1.1)
    ⟨⟨(0, 0), by omega, by omega, by decide, rfl⟩, [], ?_⟩ ?_
  · (repeat' first | refine And.intro ?_ ?_ | exact xeC | fail)
  rintro ⟨⟨k, a⟩, hk, hks, ha, hv⟩
  simp only at hk hks ha hv
  repeat' (first | (fail_if_success (with_reducible refine xstp ?_)); first | ((with_reducible refine And.intro (fun (hb : _ = true) => ?_) (fun (hb : _ = false) => ?_)) <;> replace hb := xnC hb <;> (try first | exact xfC | exact bff hb (by assumption) | exact bff (by assumption) hb)) | (with_reducible refine Both.mk ?_ ?_) | ((with_reducible refine And.intro ?_ ?_); focus exact xoC) | ((with_reducible refine Or.inl ⟨?_, ?_, ?_⟩); (focus rfl); focus exact xaC) | ((with_reducible refine xwB ?_ ?_); focus exact xaC) | ((with_reducible refine xwC ?_ ?_); focus exact xaC) | ((with_reducible refine xwD ?_ ?_); focus exact xaC) | ((with_reducible refine xwE ?_ ?_); focus exact xaC) | (with_reducible intro hc; (try simp only [capsP, and_true] at hc); (try exact xfC)) | ((fail_if_success (with_reducible first | refine xgon ?_ | intro _)); (conv => whnf); (fail_if_success (fail_if_success (with_reducible first | refine xstp ?_ | refine Both.mk ?_ ?_ | refine xgon ?_ | intro _)))))
  · rw [vd_end (by omega) (by omega)] at hv; rw [← hv]; refine FinK.mk ⟨[], _, _, ⟨rfl, rfl⟩, ?_⟩; (repeat' first | refine And.intro ?_ ?_ | exact xeC | fail)
  · rw [vd_big (by omega) (by omega) (by omega)] at hv; rw [← hv]; refine FinK.mk ⟨[], _, _, ⟨rfl, rfl⟩, ?_⟩; (repeat' first | refine And.intro ?_ ?_ | exact xeC | fail)
  · rw [vd_zero (by omega) (by omega) (by omega) (by omega)] at hv; rw [← hv]; refine FinK.mk ⟨[], _, _, ⟨rfl, rfl⟩, ?_⟩; (repeat' first | refine And.intro ?_ ?_ | exact xeC | fail)
  · rw [vd_ok (by omega) (by omega) (by omega) (by omega) (by omega)] at hv; rw [← hv]; refine FinK.mk ⟨[], _, _, ⟨rfl, rfl⟩, ?_⟩; (repeat' first | refine And.intro ?_ ?_ | exact xeC | fail)
    exact ornum (c := s.get! k) ha (by omega)
  · rw [vd_go (by omega) (by omega) (by omega)] at hv
    refine ⟨⟨(k + 1, a + (s.get! k).toNat % 128 * 128 ^ k), by omega, by omega, ?_, hv⟩, [], by simp only; omega, ?_⟩
    · have : (s.get! k).toNat % 128 * 128 ^ k ≤ 127 * 128 ^ k := Nat.mul_le_mul_right _ (by omega)
      simp only [Nat.pow_succ]
      omega
    · (repeat' first | refine And.intro ?_ ?_ | exact xeC | fail)
      exact ornum (c := s.get! k) ha (by omega)
  · rw [vd_zero (by omega) (by omega) (by omega) (by omega)] at hv; rw [← hv]; refine FinK.mk ⟨[], _, _, ⟨rfl, rfl⟩, ?_⟩; (repeat' first | refine And.intro ?_ ?_ | exact xeC | fail)
  · rw [vd_ok (by omega) (by omega) (by omega) (by omega) (by omega)] at hv; rw [← hv]; refine FinK.mk ⟨[], _, _, ⟨rfl, rfl⟩, ?_⟩; (repeat' first | refine And.intro ?_ ?_ | exact xeC | fail)
    exact ornum (c := s.get! k) ha (by omega)
  · rw [vd_ok (by omega) (by omega) (by omega) (by omega) (by omega)] at hv; rw [← hv]; refine FinK.mk ⟨[], _, _, ⟨rfl, rfl⟩, ?_⟩; (repeat' first | refine And.intro ?_ ?_ | exact xeC | fail)
    exact ornum (c := s.get! k) ha (by omega)
  · obtain rfl : k = 10 := by omega
    rw [show (vdec s.data.toList) = (0, 0, 2) from hv.symm]; refine FinK.mk ⟨[], _, _, ⟨rfl, rfl⟩, ?_⟩; (repeat' first | refine And.intro ?_ ?_ | exact xeC | fail)

end Go.Proofs.Ytgaodeffbgppmaa


namespace Go.Proofs.Ytgaodeffbgppmaa
open Go.X
set_option linter.unusedSimpArgs false
set_option linter.unusedVariables false
theorem P4.vE0 (n : Nat) : [] ++ P4.vE (9 - 0) n = P4.venc n := rfl
theorem P4.u9 {n : Nat} (hn : n < 18446744073709551616) : n < 2 * 128 ^ (9 - 0) := by show n < 2 * 128 ^ 9; omega
open P4
set_option maxRecDepth 10000 in
theorem cUint (n : Nat) (hn : n < 18446744073709551616) :
    Ctr Try.prog 44 [.c (.i .u64 n)] [] fun v h => v = .c (.s (mkS (venc n))) ∧ h = [] := by
  refine Ctr.mk' tbv mixed Try.func44 rfl rfl rfl (fun _ _ => by kernel_rfl) (by kernel_rfl) (by rfl) (by rfl) (by (repeat' first | refine And.intro ?_ ?_ | exact xeC | fail)) ?_
  repeat' (first | (fail_if_success (with_reducible refine xstp ?_)); first | ((with_reducible refine And.intro (fun (hb : _ = true) => ?_) (fun (hb : _ = false) => ?_)) <;> replace hb := xnC hb <;> (try first | exact xfC | exact bff hb (by assumption) | exact bff (by assumption) hb)) | (with_reducible refine Both.mk ?_ ?_) | ((with_reducible refine And.intro ?_ ?_); focus exact xoC) | ((with_reducible refine Or.inl ⟨?_, ?_, ?_⟩); (focus rfl); focus exact xaC) | ((with_reducible refine xwB ?_ ?_); focus exact xaC) | ((with_reducible refine xwC ?_ ?_); focus exact xaC) | ((with_reducible refine xwD ?_ ?_); focus exact xaC) | ((with_reducible refine xwE ?_ ?_); focus exact xaC) | (with_reducible intro hc; (try simp only [capsP, and_true] at hc); (try exact xfC)) | ((fail_if_success (with_reducible first | refine xgon ?_ | intro _)); (conv => whnf); (fail_if_success (fail_if_success (with_reducible first | refine xstp ?_ | refine Both.mk ?_ ?_ | refine xgon ?_ | intro _)))))
  refine LoopK.mk' {p : Nat × Nat × List UInt8 // p.1 ≤ 9 ∧ p.2.1 < 18446744073709551616 ∧ p.2.1 < 2 * 128 ^ (9 - p.1) ∧ p.2.2.length = 10 ∧ p.2.2.take p.1 ++ vE (9 - p.1) p.2.1 = venc n}
    (fun ⟨(k, m, l), _⟩ => ⟨[(0, .c (.i .u64 (m : Nat))), (3, .c (.pe 0 0 1 0 0)), (4, .c (.i .i64 (k : Nat)))], [.one (.row true false 133 1 10 10 (rowOf encB8 l))]⟩) (fun k => 10 - k.1.1)
    ⟨⟨(0, n, List.replicate 10 0), by omega, hn, P4.u9 hn, rfl, P4.vE0 n⟩, [0], ?_⟩ ?_
  · (repeat' first | refine And.intro ?_ ?_ | exact xeC | fail)
    intro i hi
    rcases (by omega : i = 0 ∨ i = 1 ∨ i = 2 ∨ i = 3 ∨ i = 4 ∨ i = 5 ∨ i = 6 ∨ i = 7 ∨ i = 8 ∨ i = 9) with rfl | rfl | rfl | rfl | rfl | rfl | rfl | rfl | rfl | rfl <;> rfl
  rintro ⟨⟨k, m, l⟩, hk, hm64, hm, hC, hE⟩
  simp only at hk hm64 hm hC hE
  repeat' (first | (fail_if_success (with_reducible refine xstp ?_)); first | ((with_reducible refine And.intro (fun (hb : _ = true) => ?_) (fun (hb : _ = false) => ?_)) <;> replace hb := xnC hb <;> (try first | exact xfC | exact bff hb (by assumption) | exact bff (by assumption) hb)) | (with_reducible refine Both.mk ?_ ?_) | ((with_reducible refine And.intro ?_ ?_); focus exact xoC) | ((with_reducible refine Or.inl ⟨?_, ?_, ?_⟩); (focus rfl); focus exact xaC) | ((with_reducible refine xwB ?_ ?_); focus exact xaC) | ((with_reducible refine xwC ?_ ?_); focus exact xaC) | ((with_reducible refine xwD ?_ ?_); focus exact xaC) | ((with_reducible refine xwE ?_ ?_); focus exact xaC) | (with_reducible intro hc; (try simp only [capsP, and_true] at hc); (try exact xfC)) | ((fail_if_success (with_reducible first | refine xgon ?_ | intro _)); (conv => whnf); (fail_if_success (fail_if_success (with_reducible first | refine xstp ?_ | refine Both.mk ?_ ?_ | refine xgon ?_ | intro _)))))
  · have hk8 : k ≤ 8 := by
      rcases Nat.lt_or_ge k 9 with h | h
      · omega
      · obtain rfl : k = 9 := by omega
        simp at hm; omega
    refine ⟨⟨(k + 1, m / 128, l.set k (UInt8.ofNat (128 + m % 128))), by omega, by show m / 128 < _; omega, ?_, by simpa using hC, ?_⟩, [0], by simp only; omega, ?_⟩
    · rw [show 9 - k = (9 - (k + 1)) + 1 by omega, Nat.pow_succ] at hm
      show m / 128 < 2 * 128 ^ (9 - (k + 1))
      omega
    · simp only
      rw [take_set_snocG _ _ _ (by omega), ← hE, show 9 - k = (9 - (k + 1)) + 1 by omega, List.append_assoc]
      congr 1
      conv => rhs; unfold vE
      rw [if_neg (by omega)]
      rfl
    · (repeat' first | refine And.intro ?_ ?_ | exact xeC | fail)
      · intro i hi
        simp only [Int.toNat_natCast, Nat.zero_add, rowOf]
        rw [getD_set _ _ _ _ (by omega)]
        by_cases h : i = k
        · rw [if_pos h, if_pos h, encB8, ← or128 m]
          rw [wrap8 m]
          rfl
        · rw [if_neg h, if_neg h]
      · exact shr7 m
  · have e8 : IntKind.u8.wrap (m : Int) = ((UInt8.ofNat m).toNat : Nat) := by
      rw [ofNat_lt (by omega), wrap8]
      omega
    have er : ∀ i, i < 10 → (if i = k then [C.i .u8 (IntKind.u8.wrap (m : Int))] else rowOf encB8 l i) = encB8 ((l.set k (UInt8.ofNat m)).getD i default) := by
      intro i hi
      rw [getD_set _ _ _ _ (by omega), e8]
      by_cases h : i = k
      · rw [if_pos h, if_pos h]; rfl
      · rw [if_neg h, if_neg h]; rfl
    have et : ((k : Int) + 1).toNat = k + 1 := by omega
    simp only [Int.toNat_natCast, Nat.zero_add, et]
    refine ⟨⟨trivial, trivial, by omega, fun i hi => ?_⟩, ?_⟩
    · rw [er i (by omega)]; rfl
    · rw [bytesOf_row (l.set k (UInt8.ofNat m)) _ 0 (k + 1) (fun i hi => by rw [Nat.zero_add, ← er i (by omega)]) (by rw [List.length_set]; omega)]
      rw [List.drop_zero, take_set_snocG _ _ _ (by omega), show l.take k ++ [UInt8.ofNat m] = venc n by
        rw [← hE]
        congr 1
        cases h : 9 - k with
        | zero => rfl
        | succ r => unfold vE; rw [if_pos (by omega)]]
      repeat' (first | (fail_if_success (with_reducible refine xstp ?_)); first | ((with_reducible refine And.intro (fun (hb : _ = true) => ?_) (fun (hb : _ = false) => ?_)) <;> replace hb := xnC hb <;> (try first | exact xfC | exact bff hb (by assumption) | exact bff (by assumption) hb)) | (with_reducible refine Both.mk ?_ ?_) | ((with_reducible refine And.intro ?_ ?_); focus exact xoC) | ((with_reducible refine Or.inl ⟨?_, ?_, ?_⟩); (focus rfl); focus exact xaC) | ((with_reducible refine xwB ?_ ?_); focus exact xaC) | ((with_reducible refine xwC ?_ ?_); focus exact xaC) | ((with_reducible refine xwD ?_ ?_); focus exact xaC) | ((with_reducible refine xwE ?_ ?_); focus exact xaC) | (with_reducible intro hc; (try simp only [capsP, and_true] at hc); (try exact xfC)) | ((fail_if_success (with_reducible first | refine xgon ?_ | intro _)); (conv => whnf); (fail_if_success (fail_if_success (with_reducible first | refine xstp ?_ | refine Both.mk ?_ ?_ | refine xgon ?_ | intro _)))))
      refine FinK.mk ⟨[], _, _, ⟨rfl, rfl⟩, ?_⟩; (repeat' first | refine And.intro ?_ ?_ | exact xeC | fail)

end Go.Proofs.Ytgaodeffbgppmaa


namespace Go.Proofs.Ytgaodeffbgppmaa
open Go.X
set_option linter.unusedSimpArgs false
set_option linter.unusedVariables false
open P4
namespace P4
def textL (l : List UInt8) : List UInt8 := venc l.length ++ l
theorem venc_le (n : Nat) : (venc n).length ≤ 10 := vE_le 9 n
end P4

set_option maxRecDepth 10000 in
theorem cText (l : List UInt8) (hl : l.length ≤ 140737488355328) :
    Ctr Try.prog 45 [.c (.s (mkS l))] [] fun v h => v = .c (.s (mkS (textL l))) ∧ h = [] := by
  refine Ctr.mk' tbv mixed Try.func45 rfl rfl rfl (fun _ _ => by kernel_rfl) (by kernel_rfl) (by rfl) (by rfl) (by (repeat' first | refine And.intro ?_ ?_ | exact xeC | fail)) ?_
  repeat' (first | (fail_if_success (with_reducible refine xstp ?_)); first | ((with_reducible refine And.intro (fun (hb : _ = true) => ?_) (fun (hb : _ = false) => ?_)) <;> replace hb := xnC hb <;> (try first | exact xfC | exact bff hb (by assumption) | exact bff (by assumption) hb)) | (with_reducible refine Both.mk ?_ ?_) | ((with_reducible refine And.intro ?_ ?_); focus exact xoC) | ((with_reducible refine Or.inl ⟨?_, ?_, ?_⟩); (focus rfl); focus exact xaC) | ((with_reducible refine xwB ?_ ?_); focus exact xaC) | ((with_reducible refine xwC ?_ ?_); focus exact xaC) | ((with_reducible refine xwD ?_ ?_); focus exact xaC) | ((with_reducible refine xwE ?_ ?_); focus exact xaC) | (with_reducible intro hc; (try simp only [capsP, and_true] at hc); (try exact xfC)) | ((fail_if_success (with_reducible first | refine xgon ?_ | intro _)); (conv => whnf); (fail_if_success (fail_if_success (with_reducible first | refine xstp ?_ | refine Both.mk ?_ ?_ | refine xgon ?_ | intro _)))))
  rw [show IntKind.u64.wrap ((mkS l).size : Nat) = (l.length : Nat) by rw [IntKind.wrap_u64, mkS_size]; omega]
  refine xcal (σ := []) (nl := []) (cUint l.length (by omega)) ?_
  rintro v h' ⟨rfl, rfl⟩ hcaps
  have h1 : (mkS (venc l.length)).size ≤ 10 := venc_le _
  have h2 : (mkS l).size ≤ 140737488355328 := hl
  refine xret ?_
  repeat' (first | (fail_if_success (with_reducible refine xstp ?_)); first | ((with_reducible refine And.intro (fun (hb : _ = true) => ?_) (fun (hb : _ = false) => ?_)) <;> replace hb := xnC hb <;> (try first | exact xfC | exact bff hb (by assumption) | exact bff (by assumption) hb)) | (with_reducible refine Both.mk ?_ ?_) | ((with_reducible refine And.intro ?_ ?_); focus exact xoC) | ((with_reducible refine Or.inl ⟨?_, ?_, ?_⟩); (focus rfl); focus exact xaC) | ((with_reducible refine xwB ?_ ?_); focus exact xaC) | ((with_reducible refine xwC ?_ ?_); focus exact xaC) | ((with_reducible refine xwD ?_ ?_); focus exact xaC) | ((with_reducible refine xwE ?_ ?_); focus exact xaC) | (with_reducible intro hc; (try simp only [capsP, and_true] at hc); (try exact xfC)) | ((fail_if_success (with_reducible first | refine xgon ?_ | intro _)); (conv => whnf); (fail_if_success (fail_if_success (with_reducible first | refine xstp ?_ | refine Both.mk ?_ ?_ | refine xgon ?_ | intro _)))))
  rw [mkS_append]
  refine FinK.mk ⟨[], _, _, ⟨rfl, rfl⟩, ?_⟩; (repeat' first | refine And.intro ?_ ?_ | exact xeC | fail)
end Go.Proofs.Ytgaodeffbgppmaa


namespace Go.Proofs.Ytgaodeffbgppmaa
open Go.X
set_option linter.unusedSimpArgs false
set_option linter.unusedVariables false
open P4

end Go.Proofs.Ytgaodeffbgppmaa


namespace Go.Proofs.Ytgaodeffbgppmaa
open Go.X
set_option linter.unusedSimpArgs false
set_option linter.unusedVariables false
namespace P4
abbrev rdC (s : ByteArray) (a e : Nat) : Ck := .cells true [.s s, .i .i64 (a : Nat), .i .i64 (e : Nat)]
def endV (s : ByteArray) (a e : Nat) : Nat := if e = 0 then (if a < s.size then 3 else 0) else e
/-- What reading a number gives: the number, the position, the error. -/
def rdU (s : ByteArray) (a e : Nat) : Nat × Nat × Nat :=
  if e = 0 then ((vdec (s.data.toList.drop a)).1, a + (vdec (s.data.toList.drop a)).2.1, (vdec (s.data.toList.drop a)).2.2) else (0, a, e)
theorem ext_list (s : ByteArray) (a : Nat) : (s.extract a s.size).data.toList = s.data.toList.drop a := by
  rw [ByteArray.data_extract]
  simp [List.extract]
  exact List.take_of_length_le (by simp)
theorem ext_size {s : ByteArray} {a : Nat} (h : a ≤ s.size) : (s.extract a s.size).size = s.size - a := by
  simp [ByteArray.size_extract]
theorem vdec_le (l : List UInt8) : (vdec l).2.1 ≤ l.length := by
  rcases vdec_err l with h | h | h
  · exact (vdec_ok (l := l) (n := (vdec l).1) (k := (vdec l).2.1) (by rw [← h])).2.2.1
  · simp [h]
  · simp [h]
end P4
open P4

set_option maxRecDepth 10000 in
theorem cNew (s : ByteArray) :
    Ctr Try.prog 50 [.c (.s s)] [] fun v h => v = .c (.p 0 0 0) ∧ h = [.one (rdC s 0 0)] := by
  refine Ctr.mk' tbv mixed Try.func50 rfl rfl rfl (fun _ _ => by kernel_rfl) (by kernel_rfl) (by rfl) (by rfl) (by (repeat' first | refine And.intro ?_ ?_ | exact xeC | fail)) ?_
  repeat' (first | (fail_if_success (with_reducible refine xstp ?_)); first | ((with_reducible refine And.intro (fun (hb : _ = true) => ?_) (fun (hb : _ = false) => ?_)) <;> replace hb := xnC hb <;> (try first | exact xfC | exact bff hb (by assumption) | exact bff (by assumption) hb)) | (with_reducible refine Both.mk ?_ ?_) | ((with_reducible refine And.intro ?_ ?_); focus exact xoC) | ((with_reducible refine Or.inl ⟨?_, ?_, ?_⟩); (focus rfl); focus exact xaC) | ((with_reducible refine xwB ?_ ?_); focus exact xaC) | ((with_reducible refine xwC ?_ ?_); focus exact xaC) | ((with_reducible refine xwD ?_ ?_); focus exact xaC) | ((with_reducible refine xwE ?_ ?_); focus exact xaC) | (with_reducible intro hc; (try simp only [capsP, and_true] at hc); (try exact xfC)) | ((fail_if_success (with_reducible first | refine xgon ?_ | intro _)); (conv => whnf); (fail_if_success (fail_if_success (with_reducible first | refine xstp ?_ | refine Both.mk ?_ ?_ | refine xgon ?_ | intro _)))))
  refine FinK.mk ⟨[0], _, _, ⟨rfl, rfl⟩, ?_⟩; (repeat' first | refine And.intro ?_ ?_ | exact xeC | fail)

set_option maxRecDepth 10000 in
theorem cErr (s : ByteArray) (a e : Nat) :
    Ctr Try.prog 52 [.c (.p 0 0 0)] [.one (rdC s a e)] fun v h => v = .c (.i .i64 (e : Nat)) ∧ h = [.one (rdC s a e)] := by
  refine Ctr.mk' tbv mixed Try.func52 rfl rfl rfl (fun _ _ => by kernel_rfl) (by kernel_rfl) (by rfl) (by rfl) (by (repeat' first | refine And.intro ?_ ?_ | exact xeC | fail)) ?_
  repeat' (first | (fail_if_success (with_reducible refine xstp ?_)); first | ((with_reducible refine And.intro (fun (hb : _ = true) => ?_) (fun (hb : _ = false) => ?_)) <;> replace hb := xnC hb <;> (try first | exact xfC | exact bff hb (by assumption) | exact bff (by assumption) hb)) | (with_reducible refine Both.mk ?_ ?_) | ((with_reducible refine And.intro ?_ ?_); focus exact xoC) | ((with_reducible refine Or.inl ⟨?_, ?_, ?_⟩); (focus rfl); focus exact xaC) | ((with_reducible refine xwB ?_ ?_); focus exact xaC) | ((with_reducible refine xwC ?_ ?_); focus exact xaC) | ((with_reducible refine xwD ?_ ?_); focus exact xaC) | ((with_reducible refine xwE ?_ ?_); focus exact xaC) | (with_reducible intro hc; (try simp only [capsP, and_true] at hc); (try exact xfC)) | ((fail_if_success (with_reducible first | refine xgon ?_ | intro _)); (conv => whnf); (fail_if_success (fail_if_success (with_reducible first | refine xstp ?_ | refine Both.mk ?_ ?_ | refine xgon ?_ | intro _)))))
  refine FinK.mk ⟨[0], _, _, ⟨rfl, rfl⟩, ?_⟩; (repeat' first | refine And.intro ?_ ?_ | exact xeC | fail)

set_option maxRecDepth 10000 in
theorem cLeft (s : ByteArray) (a e : Nat) (ha : a ≤ s.size) (hs : s.size ≤ 140737488355328) :
    Ctr Try.prog 77 [.c (.p 0 0 0)] [.one (rdC s a e)] fun v h => v = .c (.i .i64 ((s.size : Int) - a)) ∧ h = [.one (rdC s a e)] := by
  refine Ctr.mk' tbv mixed Try.func77 rfl rfl rfl (fun _ _ => by kernel_rfl) (by kernel_rfl) (by rfl) (by rfl) (by (repeat' first | refine And.intro ?_ ?_ | exact xeC | fail)) ?_
  repeat' (first | (fail_if_success (with_reducible refine xstp ?_)); first | ((with_reducible refine And.intro (fun (hb : _ = true) => ?_) (fun (hb : _ = false) => ?_)) <;> replace hb := xnC hb <;> (try first | exact xfC | exact bff hb (by assumption) | exact bff (by assumption) hb)) | (with_reducible refine Both.mk ?_ ?_) | ((with_reducible refine And.intro ?_ ?_); focus exact xoC) | ((with_reducible refine Or.inl ⟨?_, ?_, ?_⟩); (focus rfl); focus exact xaC) | ((with_reducible refine xwB ?_ ?_); focus exact xaC) | ((with_reducible refine xwC ?_ ?_); focus exact xaC) | ((with_reducible refine xwD ?_ ?_); focus exact xaC) | ((with_reducible refine xwE ?_ ?_); focus exact xaC) | (with_reducible intro hc; (try simp only [capsP, and_true] at hc); (try exact xfC)) | ((fail_if_success (with_reducible first | refine xgon ?_ | intro _)); (conv => whnf); (fail_if_success (fail_if_success (with_reducible first | refine xstp ?_ | refine Both.mk ?_ ?_ | refine xgon ?_ | intro _)))))
  refine FinK.mk ⟨[0], _, _, ⟨rfl, rfl⟩, ?_⟩; (repeat' first | refine And.intro ?_ ?_ | exact xeC | fail)

set_option maxRecDepth 10000 in
theorem cEnd (s : ByteArray) (a e : Nat) (ha : a ≤ s.size) (hs : s.size ≤ 140737488355328) :
    Ctr Try.prog 54 [.c (.p 0 0 0)] [.one (rdC s a e)] fun v h => v = .c (.i .i64 (endV s a e : Nat)) ∧ h = [.one (rdC s a e)] := by
  refine Ctr.mk' tbv mixed Try.func54 rfl rfl rfl (fun _ _ => by kernel_rfl) (by kernel_rfl) (by rfl) (by rfl) (by (repeat' first | refine And.intro ?_ ?_ | exact xeC | fail)) ?_
  repeat' (first | (fail_if_success (with_reducible refine xstp ?_)); first | ((with_reducible refine And.intro (fun (hb : _ = true) => ?_) (fun (hb : _ = false) => ?_)) <;> replace hb := xnC hb <;> (try first | exact xfC | exact bff hb (by assumption) | exact bff (by assumption) hb)) | (with_reducible refine Both.mk ?_ ?_) | ((with_reducible refine And.intro ?_ ?_); focus exact xoC) | ((with_reducible refine Or.inl ⟨?_, ?_, ?_⟩); (focus rfl); focus exact xaC) | ((with_reducible refine xwB ?_ ?_); focus exact xaC) | ((with_reducible refine xwC ?_ ?_); focus exact xaC) | ((with_reducible refine xwD ?_ ?_); focus exact xaC) | ((with_reducible refine xwE ?_ ?_); focus exact xaC) | (with_reducible intro hc; (try simp only [capsP, and_true] at hc); (try exact xfC)) | ((fail_if_success (with_reducible first | refine xgon ?_ | intro _)); (conv => whnf); (fail_if_success (fail_if_success (with_reducible first | refine xstp ?_ | refine Both.mk ?_ ?_ | refine xgon ?_ | intro _)))))
  refine xcal (σ := [.whole 0]) (nl := []) (cErr s a e) ?_
  rintro v h' ⟨rfl, rfl⟩ hcaps
  refine xret ?_
  repeat' (first | (fail_if_success (with_reducible refine xstp ?_)); first | ((with_reducible refine And.intro (fun (hb : _ = true) => ?_) (fun (hb : _ = false) => ?_)) <;> replace hb := xnC hb <;> (try first | exact xfC | exact bff hb (by assumption) | exact bff (by assumption) hb)) | (with_reducible refine Both.mk ?_ ?_) | ((with_reducible refine And.intro ?_ ?_); focus exact xoC) | ((with_reducible refine Or.inl ⟨?_, ?_, ?_⟩); (focus rfl); focus exact xaC) | ((with_reducible refine xwB ?_ ?_); focus exact xaC) | ((with_reducible refine xwC ?_ ?_); focus exact xaC) | ((with_reducible refine xwD ?_ ?_); focus exact xaC) | ((with_reducible refine xwE ?_ ?_); focus exact xaC) | (with_reducible intro hc; (try simp only [capsP, and_true] at hc); (try exact xfC)) | ((fail_if_success (with_reducible first | refine xgon ?_ | intro _)); (conv => whnf); (fail_if_success (fail_if_success (with_reducible first | refine xstp ?_ | refine Both.mk ?_ ?_ | refine xgon ?_ | intro _)))))
  · rw [show endV s a e = e from if_neg (by omega)]
    refine FinK.mk ⟨[0], _, _, ⟨rfl, rfl⟩, ?_⟩; (repeat' first | refine And.intro ?_ ?_ | exact xeC | fail)
  · refine xcal (σ := [.whole 0]) (nl := []) (cLeft s a e ha hs) ?_
    rintro v h' ⟨rfl, rfl⟩ hcaps
    refine xret ?_
    repeat' (first | (fail_if_success (with_reducible refine xstp ?_)); first | ((with_reducible refine And.intro (fun (hb : _ = true) => ?_) (fun (hb : _ = false) => ?_)) <;> replace hb := xnC hb <;> (try first | exact xfC | exact bff hb (by assumption) | exact bff (by assumption) hb)) | (with_reducible refine Both.mk ?_ ?_) | ((with_reducible refine And.intro ?_ ?_); focus exact xoC) | ((with_reducible refine Or.inl ⟨?_, ?_, ?_⟩); (focus rfl); focus exact xaC) | ((with_reducible refine xwB ?_ ?_); focus exact xaC) | ((with_reducible refine xwC ?_ ?_); focus exact xaC) | ((with_reducible refine xwD ?_ ?_); focus exact xaC) | ((with_reducible refine xwE ?_ ?_); focus exact xaC) | (with_reducible intro hc; (try simp only [capsP, and_true] at hc); (try exact xfC)) | ((fail_if_success (with_reducible first | refine xgon ?_ | intro _)); (conv => whnf); (fail_if_success (fail_if_success (with_reducible first | refine xstp ?_ | refine Both.mk ?_ ?_ | refine xgon ?_ | intro _)))))
    · rw [show endV s a e = 3 by unfold endV; rw [if_pos (by omega), if_pos (by omega)]]
      refine FinK.mk ⟨[0], _, _, ⟨rfl, rfl⟩, ?_⟩; (repeat' first | refine And.intro ?_ ?_ | exact xeC | fail)
    · rw [show endV s a e = 0 by unfold endV; rw [if_pos (by omega), if_neg (by omega)]]
      refine FinK.mk ⟨[0], _, _, ⟨rfl, rfl⟩, ?_⟩; (repeat' first | refine And.intro ?_ ?_ | exact xeC | fail)
end Go.Proofs.Ytgaodeffbgppmaa


namespace Go.Proofs.Ytgaodeffbgppmaa
open Go.X
set_option linter.unusedSimpArgs false
set_option linter.unusedVariables false
namespace P4
/-- A number of at most m at the beginning of l. -/
def vS (l : List UInt8) (m : Int) : Nat × Nat × Nat :=
  if (vdec l).2.2 = 0 then (if m < 0 ∨ m < ((vdec l).1 : Nat) then (0, 0, 4) else vdec l) else (0, 0, (vdec l).2.2)
def rdS (s : ByteArray) (a e : Nat) (m : Int) : Nat × Nat × Nat :=
  if e = 0 then ((vS (s.data.toList.drop a) m).1, a + (vS (s.data.toList.drop a) m).2.1, (vS (s.data.toList.drop a) m).2.2) else (0, a, e)
theorem vS_le (l : List UInt8) (m : Int) : (vS l m).2.1 ≤ l.length := by
  have := vdec_le l
  unfold vS
  split
  · split
    · exact Nat.zero_le _
    · exact this
  · exact Nat.zero_le _
theorem vS_err (l : List UInt8) (m : Int) (h : (vS l m).2.2 ≠ 0) : (vS l m).1 = 0 ∧ (vS l m).2.1 = 0 := by
  unfold vS at h ⊢
  split at h
  · split at h
    · rename_i h1 h2
      rw [if_pos h1, if_pos h2]; exact ⟨rfl, rfl⟩
    · rename_i h1 h2
      exact absurd h1 h
  · rename_i h1
    rw [if_neg h1]; exact ⟨rfl, rfl⟩
theorem rdS_le {s : ByteArray} {a e : Nat} {m : Int} (h : a ≤ s.size) : (rdS s a e m).2.1 ≤ s.size ∧ a ≤ (rdS s a e m).2.1 := by
  unfold rdS
  split
  · have := vS_le (s.data.toList.drop a) m
    simp at this ⊢
    omega
  · exact ⟨h, Nat.le_refl _⟩
end P4
open P4

theorem rH15wS0 {σ : List Sg} {H h' : List Fam} {v : T} {K : T → List Fam → Prop} {H' : List Fam} {v' : T} {N : Nat} (hk : K v' H') (hN : H.length = N := by (try simp only [↓List.length_cons, ↓List.length_nil, Nat.reduceAdd]) <;> rfl) (h : givesF σ N H σ h' = some H' := by (try simp (maxSteps := 1000000) only [givesF, setF, updF, Fam.zeroth, Fam.rk, Ck.rk, C.rk, E.rk, T.rk, key, List.map_cons, List.map_nil, List.cons_append, List.nil_append, List.length_cons, List.length_nil, Option.map_some, Option.bind_some, Nat.reduceAdd, Nat.zero_add, Nat.add_zero, Nat.add_sub_cancel_left, Int.toNat_natCast, reps, List.all_cons, List.all_nil, C.flat, List.append_eq, Bool.not_true, Bool.and_true, Bool.or_false, Bool.or_self, Bool.not_false, List.append_nil, Bool.and_self, tri]) <;> rfl) (hv : v.rk σ N = v' := by (try simp only [givesF, setF, updF, Fam.zeroth, Fam.rk, Ck.rk, C.rk, E.rk, T.rk, key, List.map_cons, List.map_nil, List.cons_append, List.nil_append, List.length_cons, List.length_nil, Option.map_some, Option.bind_some, Nat.reduceAdd, Nat.zero_add, Nat.add_zero, Nat.add_sub_cancel_left, Int.toNat_natCast, reps, List.all_cons, List.all_nil, C.flat, List.append_eq, Bool.not_true, Bool.and_true, Bool.or_false, Bool.or_self, Bool.not_false, List.append_nil, Bool.and_self, tri]) <;> rfl) : RetG σ H h' v K := ret_mk3 hN h hv hk
set_option maxRecDepth 10000 in
theorem cSmall1 (s : ByteArray) (m : Int) (hs : s.size ≤ 140737488355328) (hm : m ≤ 9223372036854775807) :
    Ctr Try.prog 74 [.c (.s s), .c (.p 0 0 0), .c (.p 1 0 0)] [.one (.cells true [.i .i64 m]), .one (.cells true [.i .i64 0])]
      fun v h => v = .t [.c (.i .i64 ((vS s.data.toList m).2.1 : Nat)), .c (.i .i64 ((vS s.data.toList m).2.2 : Nat))] ∧ h = [.one (.cells true [.i .i64 m]), .one (.cells true [.i .i64 ((vS s.data.toList m).1 : Nat)])] := by
  refine Ctr.mk' tbv mixed Try.func74 rfl rfl rfl (fun _ _ => by kernel_rfl) (by kernel_rfl) (by rfl) (by rfl) (by (repeat' first | refine And.intro ?_ ?_ | exact xeC | fail)) ?_
  repeat' (first | (fail_if_success (with_reducible refine xstp ?_)); first | ((with_reducible refine And.intro (fun (hb : _ = true) => ?_) (fun (hb : _ = false) => ?_)) <;> replace hb := xnC hb <;> (try first | exact xfC | exact bff hb (by assumption) | exact bff (by assumption) hb)) | (with_reducible refine Both.mk ?_ ?_) | ((with_reducible refine And.intro ?_ ?_); focus exact xoC) | ((with_reducible refine Or.inl ⟨?_, ?_, ?_⟩); (focus rfl); focus exact xaC) | ((with_reducible refine xwB ?_ ?_); focus exact xaC) | ((with_reducible refine xwC ?_ ?_); focus exact xaC) | ((with_reducible refine xwD ?_ ?_); focus exact xaC) | ((with_reducible refine xwE ?_ ?_); focus exact xaC) | (with_reducible intro hc; (try simp only [capsP, and_true] at hc); (try exact xfC)) | ((fail_if_success (with_reducible first | refine xgon ?_ | intro _)); (conv => whnf); (fail_if_success (fail_if_success (with_reducible first | refine xstp ?_ | refine Both.mk ?_ ?_ | refine xgon ?_ | intro _)))))
  refine xcal (σ := []) (nl := []) (cvarint s hs) ?_
  rintro v h' ⟨rfl, rfl⟩ hcaps
  have hlt : (vdec s.data.toList).1 < 18446744073709551616 := by
    rcases vdec_err s.data.toList with h | h | h
    · exact (vdec_ok (n := (vdec s.data.toList).1) (k := (vdec s.data.toList).2.1) (by rw [← h])).1
    · simp [h]
    · simp [h]
  refine rH15wS0 ?_
  repeat' (first | (fail_if_success (with_reducible refine xstp ?_)); first | ((with_reducible refine And.intro (fun (hb : _ = true) => ?_) (fun (hb : _ = false) => ?_)) <;> replace hb := xnC hb <;> (try first | exact xfC | exact bff hb (by assumption) | exact bff (by assumption) hb)) | (with_reducible refine Both.mk ?_ ?_) | ((with_reducible refine And.intro ?_ ?_); focus exact xoC) | ((with_reducible refine Or.inl ⟨?_, ?_, ?_⟩); (focus rfl); focus exact xaC) | ((with_reducible refine xwB ?_ ?_); focus exact xaC) | ((with_reducible refine xwC ?_ ?_); focus exact xaC) | ((with_reducible refine xwD ?_ ?_); focus exact xaC) | ((with_reducible refine xwE ?_ ?_); focus exact xaC) | (with_reducible intro hc; (try simp only [capsP, and_true] at hc); (try exact xfC)) | ((fail_if_success (with_reducible first | refine xgon ?_ | intro _)); (conv => whnf); (fail_if_success (fail_if_success (with_reducible first | refine xstp ?_ | refine Both.mk ?_ ?_ | refine xgon ?_ | intro _)))))
  · rw [show vS s.data.toList m = (0, 0, (vdec s.data.toList).2.2) from if_neg (by omega)]
    refine FinK.mk ⟨[0, 1], _, _, ⟨rfl, rfl⟩, ?_⟩; (repeat' first | refine And.intro ?_ ?_ | exact xeC | fail)
  · rw [show vS s.data.toList m = (0, 0, 4) by unfold vS; rw [if_pos (by omega), if_pos (by omega)]]
    refine FinK.mk ⟨[0, 1], _, _, ⟨rfl, rfl⟩, ?_⟩; (repeat' first | refine And.intro ?_ ?_ | exact xeC | fail)
  · rw [IntKind.wrap_u64] at hb
    rw [show vS s.data.toList m = (0, 0, 4) by unfold vS; rw [if_pos (by omega), if_pos (by omega)]]
    refine FinK.mk ⟨[0, 1], _, _, ⟨rfl, rfl⟩, ?_⟩; (repeat' first | refine And.intro ?_ ?_ | exact xeC | fail)
  · rw [IntKind.wrap_u64] at hb
    rw [show vS s.data.toList m = vdec s.data.toList by unfold vS; rw [if_pos (by omega), if_neg (by omega)]]
    refine FinK.mk ⟨[0, 1], _, _, ⟨rfl, rfl⟩, ?_⟩; (repeat' first | refine And.intro ?_ ?_ | exact xeC | fail)
    · rw [IntKind.wrap_i64]; omega
    · omega

set_option maxRecDepth 10000 in
theorem cstepS (s : ByteArray) (a e : Nat) (m : Int) (ha : a ≤ s.size) (hs : s.size ≤ 140737488355328) (hm : m ≤ 9223372036854775807) :
    Ctr Try.prog 73 [.c (.p 0 0 0), .c (.fn 74 [(1, 0, 0), (2, 0, 0)])] [.one (rdC s a e), .one (.cells true [.i .i64 m]), .one (.cells true [.i .i64 0])]
      fun v h => v = .t [] ∧ h = [.one (rdC s (rdS s a e m).2.1 (rdS s a e m).2.2), .one (.cells true [.i .i64 m]), .one (.cells true [.i .i64 ((rdS s a e m).1 : Nat)])] := by
  refine Ctr.mk' tbv mixed Try.func73 rfl rfl rfl (fun _ _ => by kernel_rfl) (by kernel_rfl) (by rfl) (by rfl) (by (repeat' first | refine And.intro ?_ ?_ | exact xeC | fail)) ?_
  repeat' (first | (fail_if_success (with_reducible refine xstp ?_)); first | ((with_reducible refine And.intro (fun (hb : _ = true) => ?_) (fun (hb : _ = false) => ?_)) <;> replace hb := xnC hb <;> (try first | exact xfC | exact bff hb (by assumption) | exact bff (by assumption) hb)) | (with_reducible refine Both.mk ?_ ?_) | ((with_reducible refine And.intro ?_ ?_); focus exact xoC) | ((with_reducible refine Or.inl ⟨?_, ?_, ?_⟩); (focus rfl); focus exact xaC) | ((with_reducible refine xwB ?_ ?_); focus exact xaC) | ((with_reducible refine xwC ?_ ?_); focus exact xaC) | ((with_reducible refine xwD ?_ ?_); focus exact xaC) | ((with_reducible refine xwE ?_ ?_); focus exact xaC) | (with_reducible intro hc; (try simp only [capsP, and_true] at hc); (try exact xfC)) | ((fail_if_success (with_reducible first | refine xgon ?_ | intro _)); (conv => whnf); (fail_if_success (fail_if_success (with_reducible first | refine xstp ?_ | refine Both.mk ?_ ?_ | refine xgon ?_ | intro _)))))
  · rw [show rdS s a e m = (0, a, e) from if_neg (by omega)]
    refine FinK.mk ⟨[0, 1, 2], _, _, ⟨rfl, rfl⟩, ?_⟩; (repeat' first | refine And.intro ?_ ?_ | exact xeC | fail)
  have hu : rdS s a e m = ((vS (s.data.toList.drop a) m).1, a + (vS (s.data.toList.drop a) m).2.1, (vS (s.data.toList.drop a) m).2.2) := if_pos (by omega)
  have hz := ext_size ha
  have hl := rdS_le (e := e) (m := m) ha
  have her := vS_err (s.data.toList.drop a) m
  refine xcal (σ := [.whole 1, .whole 2]) (nl := []) (cSmall1 (s.extract a s.size) m (by omega) hm) ?_
  rintro v h' ⟨rfl, rfl⟩ hcaps
  rw [ext_list]
  rw [hu] at hl ⊢
  generalize vS (s.data.toList.drop a) m = r at *
  obtain ⟨r1, r2, r3⟩ := r
  simp only at hl her
  refine xret ?_
  repeat' (first | (fail_if_success (with_reducible refine xstp ?_)); first | ((with_reducible refine And.intro (fun (hb : _ = true) => ?_) (fun (hb : _ = false) => ?_)) <;> replace hb := xnC hb <;> (try first | exact xfC | exact bff hb (by assumption) | exact bff (by assumption) hb)) | (with_reducible refine Both.mk ?_ ?_) | ((with_reducible refine And.intro ?_ ?_); focus exact xoC) | ((with_reducible refine Or.inl ⟨?_, ?_, ?_⟩); (focus rfl); focus exact xaC) | ((with_reducible refine xwB ?_ ?_); focus exact xaC) | ((with_reducible refine xwC ?_ ?_); focus exact xaC) | ((with_reducible refine xwD ?_ ?_); focus exact xaC) | ((with_reducible refine xwE ?_ ?_); focus exact xaC) | (with_reducible intro hc; (try simp only [capsP, and_true] at hc); (try exact xfC)) | ((fail_if_success (with_reducible first | refine xgon ?_ | intro _)); (conv => whnf); (fail_if_success (fail_if_success (with_reducible first | refine xstp ?_ | refine Both.mk ?_ ?_ | refine xgon ?_ | intro _)))))
  · obtain ⟨h1, h2⟩ := her (by omega)
    refine FinK.mk ⟨[0, 1, 2], _, _, ⟨rfl, rfl⟩, ?_⟩; (repeat' first | refine And.intro ?_ ?_ | exact xeC | fail)
    all_goals (simp only; omega)
  · refine FinK.mk ⟨[0, 1, 2], _, _, ⟨rfl, rfl⟩, ?_⟩; (repeat' first | refine And.intro ?_ ?_ | exact xeC | fail)
    all_goals (simp only; omega)

set_option maxRecDepth 10000 in
theorem crSmall (s : ByteArray) (a e : Nat) (m : Int) (ha : a ≤ s.size) (hs : s.size ≤ 140737488355328) (hm : m ≤ 9223372036854775807) :
    Ctr Try.prog 51 [.c (.p 0 0 0), .c (.i .i64 m)] [.one (rdC s a e)]
      fun v h => v = .c (.i .i64 ((rdS s a e m).1 : Nat)) ∧ h = [.one (rdC s (rdS s a e m).2.1 (rdS s a e m).2.2)] := by
  refine Ctr.mk' tbv mixed Try.func51 rfl rfl rfl (fun _ _ => by kernel_rfl) (by kernel_rfl) (by rfl) (by rfl) (by (repeat' first | refine And.intro ?_ ?_ | exact xeC | fail)) ?_
  repeat' (first | (fail_if_success (with_reducible refine xstp ?_)); first | ((with_reducible refine And.intro (fun (hb : _ = true) => ?_) (fun (hb : _ = false) => ?_)) <;> replace hb := xnC hb <;> (try first | exact xfC | exact bff hb (by assumption) | exact bff (by assumption) hb)) | (with_reducible refine Both.mk ?_ ?_) | ((with_reducible refine And.intro ?_ ?_); focus exact xoC) | ((with_reducible refine Or.inl ⟨?_, ?_, ?_⟩); (focus rfl); focus exact xaC) | ((with_reducible refine xwB ?_ ?_); focus exact xaC) | ((with_reducible refine xwC ?_ ?_); focus exact xaC) | ((with_reducible refine xwD ?_ ?_); focus exact xaC) | ((with_reducible refine xwE ?_ ?_); focus exact xaC) | (with_reducible intro hc; (try simp only [capsP, and_true] at hc); (try exact xfC)) | ((fail_if_success (with_reducible first | refine xgon ?_ | intro _)); (conv => whnf); (fail_if_success (fail_if_success (with_reducible first | refine xstp ?_ | refine Both.mk ?_ ?_ | refine xgon ?_ | intro _)))))
  refine xcal (σ := [.whole 0, .whole 1, .whole 2]) (nl := []) (cstepS s a e m ha hs hm) ?_
  rintro v h' ⟨rfl, rfl⟩ hcaps
  refine xret ?_
  repeat' (first | (fail_if_success (with_reducible refine xstp ?_)); first | ((with_reducible refine And.intro (fun (hb : _ = true) => ?_) (fun (hb : _ = false) => ?_)) <;> replace hb := xnC hb <;> (try first | exact xfC | exact bff hb (by assumption) | exact bff (by assumption) hb)) | (with_reducible refine Both.mk ?_ ?_) | ((with_reducible refine And.intro ?_ ?_); focus exact xoC) | ((with_reducible refine Or.inl ⟨?_, ?_, ?_⟩); (focus rfl); focus exact xaC) | ((with_reducible refine xwB ?_ ?_); focus exact xaC) | ((with_reducible refine xwC ?_ ?_); focus exact xaC) | ((with_reducible refine xwD ?_ ?_); focus exact xaC) | ((with_reducible refine xwE ?_ ?_); focus exact xaC) | (with_reducible intro hc; (try simp only [capsP, and_true] at hc); (try exact xfC)) | ((fail_if_success (with_reducible first | refine xgon ?_ | intro _)); (conv => whnf); (fail_if_success (fail_if_success (with_reducible first | refine xstp ?_ | refine Both.mk ?_ ?_ | refine xgon ?_ | intro _)))))
  refine FinK.mk ⟨[0], _, _, ⟨rfl, rfl⟩, ?_⟩; (repeat' first | refine And.intro ?_ ?_ | exact xeC | fail)
end Go.Proofs.Ytgaodeffbgppmaa


namespace Go.Proofs.Ytgaodeffbgppmaa
open Go.X
set_option linter.unusedSimpArgs false
set_option linter.unusedVariables false
namespace P4
/-- A string of at most m bytes, with its length ahead, at the beginning of l. -/
def vT (l : List UInt8) (m : Int) : List UInt8 × Nat × Nat :=
  if (vdec l).2.2 = 0 then (if m < 0 ∨ m < ((vdec l).1 : Nat) then ([], 0, 3) else if l.length - (vdec l).2.1 < (vdec l).1 then ([], 0, 1)
    else ((l.drop (vdec l).2.1).take (vdec l).1, (vdec l).2.1 + (vdec l).1, 0)) else ([], 0, (vdec l).2.2)
def rdT (s : ByteArray) (a e : Nat) (m : Int) : List UInt8 × Nat × Nat :=
  if e = 0 then ((vT (s.data.toList.drop a) m).1, a + (vT (s.data.toList.drop a) m).2.1, (vT (s.data.toList.drop a) m).2.2) else ([], a, e)
theorem vT_le (l : List UInt8) (m : Int) : (vT l m).2.1 ≤ l.length := by
  have := vdec_le l
  unfold vT
  split
  · split
    · exact Nat.zero_le _
    · split
      · exact Nat.zero_le _
      · simp only; omega
  · exact Nat.zero_le _
theorem vT_err (l : List UInt8) (m : Int) (h : (vT l m).2.2 ≠ 0) : (vT l m).1 = [] ∧ (vT l m).2.1 = 0 := by
  unfold vT at h ⊢
  split at h
  · rename_i h1
    rw [if_pos h1]
    split at h
    · rename_i h2
      rw [if_pos h2]; exact ⟨rfl, rfl⟩
    · rename_i h2
      rw [if_neg h2]
      split at h
      · rename_i h3
        rw [if_pos h3]; exact ⟨rfl, rfl⟩
      · exact absurd rfl h
  · rename_i h1
    rw [if_neg h1]; exact ⟨rfl, rfl⟩
theorem rdT_le {s : ByteArray} {a e : Nat} {m : Int} (h : a ≤ s.size) : (rdT s a e m).2.1 ≤ s.size ∧ a ≤ (rdT s a e m).2.1 := by
  unfold rdT
  split
  · have := vT_le (s.data.toList.drop a) m
    simp at this ⊢
    omega
  · exact ⟨h, Nat.le_refl _⟩
theorem ext_take (s : ByteArray) (k n : Nat) : s.extract k (k + n) = mkS ((s.data.toList.drop k).take n) := by
  conv => lhs; rw [← mkS_of s, mkS_ext]
  rw [List.drop_take]
  congr 2
  omega
end P4
open P4

theorem rH15wT0 {σ : List Sg} {H h' : List Fam} {v : T} {K : T → List Fam → Prop} {H' : List Fam} {v' : T} {N : Nat} (hk : K v' H') (hN : H.length = N := by (try simp only [↓List.length_cons, ↓List.length_nil, Nat.reduceAdd]) <;> rfl) (h : givesF σ N H σ h' = some H' := by (try simp (maxSteps := 1000000) only [givesF, setF, updF, Fam.zeroth, Fam.rk, Ck.rk, C.rk, E.rk, T.rk, key, List.map_cons, List.map_nil, List.cons_append, List.nil_append, List.length_cons, List.length_nil, Option.map_some, Option.bind_some, Nat.reduceAdd, Nat.zero_add, Nat.add_zero, Nat.add_sub_cancel_left, Int.toNat_natCast, reps, List.all_cons, List.all_nil, C.flat, List.append_eq, Bool.not_true, Bool.and_true, Bool.or_false, Bool.or_self, Bool.not_false, List.append_nil, Bool.and_self, tri]) <;> rfl) (hv : v.rk σ N = v' := by (try simp only [givesF, setF, updF, Fam.zeroth, Fam.rk, Ck.rk, C.rk, E.rk, T.rk, key, List.map_cons, List.map_nil, List.cons_append, List.nil_append, List.length_cons, List.length_nil, Option.map_some, Option.bind_some, Nat.reduceAdd, Nat.zero_add, Nat.add_zero, Nat.add_sub_cancel_left, Int.toNat_natCast, reps, List.all_cons, List.all_nil, C.flat, List.append_eq, Bool.not_true, Bool.and_true, Bool.or_false, Bool.or_self, Bool.not_false, List.append_nil, Bool.and_self, tri]) <;> rfl) : RetG σ H h' v K := ret_mk3 hN h hv hk
set_option maxRecDepth 10000 in
theorem cText1 (s : ByteArray) (m : Int) (hs : s.size ≤ 140737488355328) (hm : m ≤ 9223372036854775807) :
    Ctr Try.prog 76 [.c (.s s), .c (.p 0 0 0), .c (.p 1 0 0)] [.one (.cells true [.i .i64 m]), .one (.cells true [.s (mkS [])])]
      fun v h => v = .t [.c (.i .i64 ((vT s.data.toList m).2.1 : Nat)), .c (.i .i64 ((vT s.data.toList m).2.2 : Nat))] ∧ h = [.one (.cells true [.i .i64 m]), .one (.cells true [.s (mkS (vT s.data.toList m).1)])] := by
  refine Ctr.mk' tbv mixed Try.func76 rfl rfl rfl (fun _ _ => by kernel_rfl) (by kernel_rfl) (by rfl) (by rfl) (by (repeat' first | refine And.intro ?_ ?_ | exact xeC | fail)) ?_
  repeat' (first | (fail_if_success (with_reducible refine xstp ?_)); first | ((with_reducible refine And.intro (fun (hb : _ = true) => ?_) (fun (hb : _ = false) => ?_)) <;> replace hb := xnC hb <;> (try first | exact xfC | exact bff hb (by assumption) | exact bff (by assumption) hb)) | (with_reducible refine Both.mk ?_ ?_) | ((with_reducible refine And.intro ?_ ?_); focus exact xoC) | ((with_reducible refine Or.inl ⟨?_, ?_, ?_⟩); (focus rfl); focus exact xaC) | ((with_reducible refine xwB ?_ ?_); focus exact xaC) | ((with_reducible refine xwC ?_ ?_); focus exact xaC) | ((with_reducible refine xwD ?_ ?_); focus exact xaC) | ((with_reducible refine xwE ?_ ?_); focus exact xaC) | (with_reducible intro hc; (try simp only [capsP, and_true] at hc); (try exact xfC)) | ((fail_if_success (with_reducible first | refine xgon ?_ | intro _)); (conv => whnf); (fail_if_success (fail_if_success (with_reducible first | refine xstp ?_ | refine Both.mk ?_ ?_ | refine xgon ?_ | intro _)))))
  refine xcal (σ := []) (nl := []) (cvarint s hs) ?_
  rintro v h' ⟨rfl, rfl⟩ hcaps
  have hle := vdec_le s.data.toList
  rw [size_len] at hle
  have hlt : (vdec s.data.toList).1 < 18446744073709551616 := by
    rcases vdec_err s.data.toList with h | h | h
    · exact (vdec_ok (n := (vdec s.data.toList).1) (k := (vdec s.data.toList).2.1) (by rw [← h])).1
    · simp [h]
    · simp [h]
  refine rH15wT0 ?_
  repeat' (first | (fail_if_success (with_reducible refine xstp ?_)); first | ((with_reducible refine And.intro (fun (hb : _ = true) => ?_) (fun (hb : _ = false) => ?_)) <;> replace hb := xnC hb <;> (try first | exact xfC | exact bff hb (by assumption) | exact bff (by assumption) hb)) | (with_reducible refine Both.mk ?_ ?_) | ((with_reducible refine And.intro ?_ ?_); focus exact xoC) | ((with_reducible refine Or.inl ⟨?_, ?_, ?_⟩); (focus rfl); focus exact xaC) | ((with_reducible refine xwB ?_ ?_); focus exact xaC) | ((with_reducible refine xwC ?_ ?_); focus exact xaC) | ((with_reducible refine xwD ?_ ?_); focus exact xaC) | ((with_reducible refine xwE ?_ ?_); focus exact xaC) | (with_reducible intro hc; (try simp only [capsP, and_true] at hc); (try exact xfC)) | ((fail_if_success (with_reducible first | refine xgon ?_ | intro _)); (conv => whnf); (fail_if_success (fail_if_success (with_reducible first | refine xstp ?_ | refine Both.mk ?_ ?_ | refine xgon ?_ | intro _)))))
  · rw [show vT s.data.toList m = ([], 0, (vdec s.data.toList).2.2) from if_neg (by omega)]
    refine FinK.mk ⟨[0, 1], _, _, ⟨rfl, rfl⟩, ?_⟩; (repeat' first | refine And.intro ?_ ?_ | exact xeC | fail)
  · rw [show vT s.data.toList m = ([], 0, 3) by unfold vT; rw [if_pos (by omega), if_pos (by omega)]]
    refine FinK.mk ⟨[0, 1], _, _, ⟨rfl, rfl⟩, ?_⟩; (repeat' first | refine And.intro ?_ ?_ | exact xeC | fail)
  · rw [IntKind.wrap_u64] at hb
    rw [show vT s.data.toList m = ([], 0, 3) by unfold vT; rw [if_pos (by omega), if_pos (by omega)]]
    refine FinK.mk ⟨[0, 1], _, _, ⟨rfl, rfl⟩, ?_⟩; (repeat' first | refine And.intro ?_ ?_ | exact xeC | fail)
  · rename_i h1 h2 h3
    rw [IntKind.wrap_u64] at hb h3
    rw [show vT s.data.toList m = ([], 0, 1) by unfold vT; rw [size_len, if_pos (by omega), if_neg (by omega), if_pos (by omega)]]
    refine FinK.mk ⟨[0, 1], _, _, ⟨rfl, rfl⟩, ?_⟩; (repeat' first | refine And.intro ?_ ?_ | exact xeC | fail)
  rename_i h1 h2 h3
  rw [IntKind.wrap_u64] at hb h3
  have hw : IntKind.i64.wrap ((vdec s.data.toList).1 : Nat) = ((vdec s.data.toList).1 : Nat) := by rw [IntKind.wrap_i64]; omega
  rw [hw]
  repeat' (first | (fail_if_success (with_reducible refine xstp ?_)); first | ((with_reducible refine And.intro (fun (hb : _ = true) => ?_) (fun (hb : _ = false) => ?_)) <;> replace hb := xnC hb <;> (try first | exact xfC | exact bff hb (by assumption) | exact bff (by assumption) hb)) | (with_reducible refine Both.mk ?_ ?_) | ((with_reducible refine And.intro ?_ ?_); focus exact xoC) | ((with_reducible refine Or.inl ⟨?_, ?_, ?_⟩); (focus rfl); focus exact xaC) | ((with_reducible refine xwB ?_ ?_); focus exact xaC) | ((with_reducible refine xwC ?_ ?_); focus exact xaC) | ((with_reducible refine xwD ?_ ?_); focus exact xaC) | ((with_reducible refine xwE ?_ ?_); focus exact xaC) | (with_reducible intro hc; (try simp only [capsP, and_true] at hc); (try exact xfC)) | ((fail_if_success (with_reducible first | refine xgon ?_ | intro _)); (conv => whnf); (fail_if_success (fail_if_success (with_reducible first | refine xstp ?_ | refine Both.mk ?_ ?_ | refine xgon ?_ | intro _)))))
  rw [show vT s.data.toList m = ((s.data.toList.drop (vdec s.data.toList).2.1).take (vdec s.data.toList).1, (vdec s.data.toList).2.1 + (vdec s.data.toList).1, 0) by unfold vT; rw [size_len, if_pos (by omega), if_neg (by omega), if_neg (by omega)]]
  refine FinK.mk ⟨[0, 1], _, _, ⟨rfl, rfl⟩, ?_⟩; (repeat' first | refine And.intro ?_ ?_ | exact xeC | fail)
  all_goals first | rfl | (rw [at_nat, Int.toNat_natCast, ext_take]; done) | (simp only; omega)

set_option maxRecDepth 10000 in
theorem cstepT (s : ByteArray) (a e : Nat) (m : Int) (ha : a ≤ s.size) (hs : s.size ≤ 140737488355328) (hm : m ≤ 9223372036854775807) :
    Ctr Try.prog 73 [.c (.p 0 0 0), .c (.fn 76 [(1, 0, 0), (2, 0, 0)])] [.one (rdC s a e), .one (.cells true [.i .i64 m]), .one (.cells true [.s (mkS [])])]
      fun v h => v = .t [] ∧ h = [.one (rdC s (rdT s a e m).2.1 (rdT s a e m).2.2), .one (.cells true [.i .i64 m]), .one (.cells true [.s (mkS (rdT s a e m).1)])] := by
  refine Ctr.mk' tbv mixed Try.func73 rfl rfl rfl (fun _ _ => by kernel_rfl) (by kernel_rfl) (by rfl) (by rfl) (by (repeat' first | refine And.intro ?_ ?_ | exact xeC | fail)) ?_
  repeat' (first | (fail_if_success (with_reducible refine xstp ?_)); first | ((with_reducible refine And.intro (fun (hb : _ = true) => ?_) (fun (hb : _ = false) => ?_)) <;> replace hb := xnC hb <;> (try first | exact xfC | exact bff hb (by assumption) | exact bff (by assumption) hb)) | (with_reducible refine Both.mk ?_ ?_) | ((with_reducible refine And.intro ?_ ?_); focus exact xoC) | ((with_reducible refine Or.inl ⟨?_, ?_, ?_⟩); (focus rfl); focus exact xaC) | ((with_reducible refine xwB ?_ ?_); focus exact xaC) | ((with_reducible refine xwC ?_ ?_); focus exact xaC) | ((with_reducible refine xwD ?_ ?_); focus exact xaC) | ((with_reducible refine xwE ?_ ?_); focus exact xaC) | (with_reducible intro hc; (try simp only [capsP, and_true] at hc); (try exact xfC)) | ((fail_if_success (with_reducible first | refine xgon ?_ | intro _)); (conv => whnf); (fail_if_success (fail_if_success (with_reducible first | refine xstp ?_ | refine Both.mk ?_ ?_ | refine xgon ?_ | intro _)))))
  · rw [show rdT s a e m = ([], a, e) from if_neg (by omega)]
    refine FinK.mk ⟨[0, 1, 2], _, _, ⟨rfl, rfl⟩, ?_⟩; (repeat' first | refine And.intro ?_ ?_ | exact xeC | fail)
  have hu : rdT s a e m = ((vT (s.data.toList.drop a) m).1, a + (vT (s.data.toList.drop a) m).2.1, (vT (s.data.toList.drop a) m).2.2) := if_pos (by omega)
  have hz := ext_size ha
  have hl := rdT_le (e := e) (m := m) ha
  have her := vT_err (s.data.toList.drop a) m
  refine xcal (σ := [.whole 1, .whole 2]) (nl := []) (cText1 (s.extract a s.size) m (by omega) hm) ?_
  rintro v h' ⟨rfl, rfl⟩ hcaps
  rw [ext_list]
  rw [hu] at hl ⊢
  generalize vT (s.data.toList.drop a) m = r at *
  obtain ⟨r1, r2, r3⟩ := r
  simp only at hl her
  refine xret ?_
  repeat' (first | (fail_if_success (with_reducible refine xstp ?_)); first | ((with_reducible refine And.intro (fun (hb : _ = true) => ?_) (fun (hb : _ = false) => ?_)) <;> replace hb := xnC hb <;> (try first | exact xfC | exact bff hb (by assumption) | exact bff (by assumption) hb)) | (with_reducible refine Both.mk ?_ ?_) | ((with_reducible refine And.intro ?_ ?_); focus exact xoC) | ((with_reducible refine Or.inl ⟨?_, ?_, ?_⟩); (focus rfl); focus exact xaC) | ((with_reducible refine xwB ?_ ?_); focus exact xaC) | ((with_reducible refine xwC ?_ ?_); focus exact xaC) | ((with_reducible refine xwD ?_ ?_); focus exact xaC) | ((with_reducible refine xwE ?_ ?_); focus exact xaC) | (with_reducible intro hc; (try simp only [capsP, and_true] at hc); (try exact xfC)) | ((fail_if_success (with_reducible first | refine xgon ?_ | intro _)); (conv => whnf); (fail_if_success (fail_if_success (with_reducible first | refine xstp ?_ | refine Both.mk ?_ ?_ | refine xgon ?_ | intro _)))))
  · obtain ⟨h1, h2⟩ := her (by omega)
    refine FinK.mk ⟨[0, 1, 2], _, _, ⟨rfl, rfl⟩, ?_⟩; (repeat' first | refine And.intro ?_ ?_ | exact xeC | fail)
    all_goals (simp only; omega)
  · refine FinK.mk ⟨[0, 1, 2], _, _, ⟨rfl, rfl⟩, ?_⟩; (repeat' first | refine And.intro ?_ ?_ | exact xeC | fail)
    all_goals (simp only; omega)

set_option maxRecDepth 10000 in
theorem crText (s : ByteArray) (a e : Nat) (m : Int) (ha : a ≤ s.size) (hs : s.size ≤ 140737488355328) (hm : m ≤ 9223372036854775807) :
    Ctr Try.prog 53 [.c (.p 0 0 0), .c (.i .i64 m)] [.one (rdC s a e)]
      fun v h => v = .c (.s (mkS (rdT s a e m).1)) ∧ h = [.one (rdC s (rdT s a e m).2.1 (rdT s a e m).2.2)] := by
  refine Ctr.mk' tbv mixed Try.func53 rfl rfl rfl (fun _ _ => by kernel_rfl) (by kernel_rfl) (by rfl) (by rfl) (by (repeat' first | refine And.intro ?_ ?_ | exact xeC | fail)) ?_
  repeat' (first | (fail_if_success (with_reducible refine xstp ?_)); first | ((with_reducible refine And.intro (fun (hb : _ = true) => ?_) (fun (hb : _ = false) => ?_)) <;> replace hb := xnC hb <;> (try first | exact xfC | exact bff hb (by assumption) | exact bff (by assumption) hb)) | (with_reducible refine Both.mk ?_ ?_) | ((with_reducible refine And.intro ?_ ?_); focus exact xoC) | ((with_reducible refine Or.inl ⟨?_, ?_, ?_⟩); (focus rfl); focus exact xaC) | ((with_reducible refine xwB ?_ ?_); focus exact xaC) | ((with_reducible refine xwC ?_ ?_); focus exact xaC) | ((with_reducible refine xwD ?_ ?_); focus exact xaC) | ((with_reducible refine xwE ?_ ?_); focus exact xaC) | (with_reducible intro hc; (try simp only [capsP, and_true] at hc); (try exact xfC)) | ((fail_if_success (with_reducible first | refine xgon ?_ | intro _)); (conv => whnf); (fail_if_success (fail_if_success (with_reducible first | refine xstp ?_ | refine Both.mk ?_ ?_ | refine xgon ?_ | intro _)))))
  refine xcal (σ := [.whole 0, .whole 1, .whole 2]) (nl := []) (cstepT s a e m ha hs hm) ?_
  rintro v h' ⟨rfl, rfl⟩ hcaps
  refine xret ?_
  repeat' (first | (fail_if_success (with_reducible refine xstp ?_)); first | ((with_reducible refine And.intro (fun (hb : _ = true) => ?_) (fun (hb : _ = false) => ?_)) <;> replace hb := xnC hb <;> (try first | exact xfC | exact bff hb (by assumption) | exact bff (by assumption) hb)) | (with_reducible refine Both.mk ?_ ?_) | ((with_reducible refine And.intro ?_ ?_); focus exact xoC) | ((with_reducible refine Or.inl ⟨?_, ?_, ?_⟩); (focus rfl); focus exact xaC) | ((with_reducible refine xwB ?_ ?_); focus exact xaC) | ((with_reducible refine xwC ?_ ?_); focus exact xaC) | ((with_reducible refine xwD ?_ ?_); focus exact xaC) | ((with_reducible refine xwE ?_ ?_); focus exact xaC) | (with_reducible intro hc; (try simp only [capsP, and_true] at hc); (try exact xfC)) | ((fail_if_success (with_reducible first | refine xgon ?_ | intro _)); (conv => whnf); (fail_if_success (fail_if_success (with_reducible first | refine xstp ?_ | refine Both.mk ?_ ?_ | refine xgon ?_ | intro _)))))
  refine FinK.mk ⟨[0], _, _, ⟨rfl, rfl⟩, ?_⟩; (repeat' first | refine And.intro ?_ ?_ | exact xeC | fail)
end Go.Proofs.Ytgaodeffbgppmaa


namespace Go.Proofs.Ytgaodeffbgppmaa
open Go.X
set_option linter.unusedSimpArgs false
set_option linter.unusedVariables false
open P4
namespace P4
theorem rdS_U (s : ByteArray) (a e : Nat) (m : Int) : rdS s a e m = if (rdU s a e).2.2 = 0 then (if m < 0 ∨ m < ((rdU s a e).1 : Nat) then (0, a, 4) else rdU s a e) else (0, a, (rdU s a e).2.2) := by
  unfold rdS rdU vS
  by_cases h : e = 0
  · simp only [if_pos h]
    by_cases h2 : (vdec (s.data.toList.drop a)).2.2 = 0
    · simp only [if_pos h2]
      by_cases h3 : m < 0 ∨ m < ((vdec (s.data.toList.drop a)).1 : Nat)
      · simp only [if_pos h3, Nat.add_zero]
      · simp only [if_neg h3]
    · simp only [if_neg h2, Nat.add_zero]
  · simp only [if_neg h]
theorem rdT_U (s : ByteArray) (a e : Nat) (m : Int) : rdT s a e m = if (rdU s a e).2.2 = 0 then (if m < 0 ∨ m < ((rdU s a e).1 : Nat) then ([], a, 3) else
    if s.size - (rdU s a e).2.1 < (rdU s a e).1 then ([], a, 1) else ((s.data.toList.drop (rdU s a e).2.1).take (rdU s a e).1, (rdU s a e).2.1 + (rdU s a e).1, 0)) else ([], a, (rdU s a e).2.2) := by
  unfold rdT rdU vT
  by_cases h : e = 0
  · simp only [if_pos h]
    by_cases h2 : (vdec (s.data.toList.drop a)).2.2 = 0
    · simp only [if_pos h2]
      by_cases h3 : m < 0 ∨ m < ((vdec (s.data.toList.drop a)).1 : Nat)
      · simp only [if_pos h3, Nat.add_zero]
      · simp only [if_neg h3, List.length_drop, size_len, Nat.sub_sub]
        by_cases h4 : s.size - (a + (vdec (s.data.toList.drop a)).2.1) < (vdec (s.data.toList.drop a)).1
        · simp only [if_pos h4, Nat.add_zero]
        · simp only [if_neg h4, List.drop_drop, Nat.add_assoc]
    · simp only [if_neg h2, Nat.add_zero]
  · simp only [if_neg h]
end P4

end Go.Proofs.Ytgaodeffbgppmaa


namespace Go.Proofs.Ytgaodeffbgppmaa
namespace P5

def stp (x : Nat) : Nat := if x % 2 = 1 then (x / 2) ^^^ 2197175160 else x / 2
def stps : Nat → Nat → Nat
  | 0, x => x
  | n + 1, x => stps n (stp x)
def crcB (x : Nat) (b : UInt8) : Nat := stps 8 (x ^^^ b.toNat)
def crcF (l : List UInt8) (x : Nat) : Nat := l.foldl crcB x
def crc (l : List UInt8) : Nat := crcF l 4294967295 ^^^ 4294967295

theorem stp_lt {x : Nat} (h : x < 4294967296) : stp x < 4294967296 := by
  unfold stp; split
  · exact Nat.xor_lt_two_pow (n := 32) (by omega) (by omega)
  · omega
theorem stps_lt (n : Nat) : ∀ {x : Nat}, x < 4294967296 → stps n x < 4294967296 := by
  induction n with
  | zero => intro x h; exact h
  | succ n ih => intro x h; exact ih (stp_lt h)
theorem stps_succ (n : Nat) : ∀ x, stps (n + 1) x = stp (stps n x) := by
  induction n with
  | zero => intro x; rfl
  | succ n ih => intro x; show stps (n + 1) (stp x) = _; rw [ih]; rfl
theorem xorb_lt {x : Nat} (h : x < 4294967296) (b : UInt8) : x ^^^ b.toNat < 4294967296 :=
  Nat.xor_lt_two_pow (n := 32) (by omega) (by have := b.toNat_lt; omega)
theorem crcB_lt {x : Nat} (h : x < 4294967296) (b : UInt8) : crcB x b < 4294967296 := stps_lt 8 (xorb_lt h b)
theorem crcF_lt (l : List UInt8) : ∀ {x : Nat}, x < 4294967296 → crcF l x < 4294967296 := by
  induction l with
  | nil => intro x h; exact h
  | cons b l ih => intro x h; exact ih (crcB_lt h b)
theorem crcF_append (l m : List UInt8) (x : Nat) : crcF (l ++ m) x = crcF m (crcF l x) := List.foldl_append ..
theorem crcF_snoc (l : List UInt8) (b : UInt8) (x : Nat) : crcF (l ++ [b]) x = crcB (crcF l x) b := by rw [crcF_append]; rfl
theorem crc_lt (l : List UInt8) : crc l < 4294967296 :=
  Nat.xor_lt_two_pow (n := 32) (crcF_lt l (by decide)) (by decide)

def fnvB (x : Nat) (b : UInt8) : Nat := ((x ^^^ b.toNat) * 1099511628211) % 18446744073709551616
def fnvF (l : List UInt8) (x : Nat) : Nat := l.foldl fnvB x
def fnv0 : Nat := 14695981039346656037
def fnv (l : List UInt8) : Nat := fnvF l fnv0
/-- The walk's own spelling. -/
theorem take_snoc (s : ByteArray) (k : Nat) (h : k < s.size) : s.data.toList.take (k + 1) = s.data.toList.take k ++ [s[k]] := by
  rw [List.take_succ_eq_append_getElem (by simpa using h)]; rfl
theorem take_all (s : ByteArray) (k : Nat) (h : s.size ≤ k) : s.data.toList.take k = s.data.toList :=
  List.take_of_length_le (by simpa using h)
theorem and1 (y : Nat) (h : y < 4294967296) : bits .and .u32 (y : Int) 1 = ((y % 2 : Nat) : Int) := by
  have := u32_and_nat y 1 h (by decide)
  simpa [nat_mask1] using this
theorem xorc (y c : Nat) (h : y < 4294967296) (hc : c < 4294967296) : bits .xor .u32 (y : Int) (c : Int) = ((y ^^^ c : Nat) : Int) := u32_xor_nat y c h hc
/-- The k bytes of a number, least significant first. -/
def le : Nat → Nat → List UInt8
  | 0, _ => []
  | k + 1, n => UInt8.ofNat (n % 256) :: le k (n / 256)
theorem le_length (k : Nat) : ∀ n, (le k n).length = k := by
  induction k with
  | zero => intro n; rfl
  | succ k ih => intro n; simp [le, ih]
theorem le_snoc (k : Nat) : ∀ n, le (k + 1) n = le k n ++ [UInt8.ofNat (n / 256 ^ k % 256)] := by
  induction k with
  | zero => intro n; simp [le]
  | succ k ih =>
    intro n
    rw [show le (k + 2) n = UInt8.ofNat (n % 256) :: le (k + 1) (n / 256) from rfl, ih, Nat.div_div_eq_div_mul, ← Nat.pow_succ']
    rfl
theorem byte_mod (n : Nat) : ((UInt8.ofNat (n % 256)).toNat : Int) = (n : Int) % 256 := by
  rw [UInt8.toNat_ofNat']; omega
/-- Seal and Open, and the string that extends a chain. -/
def sealL (l : List UInt8) : List UInt8 := le 4 (crc l) ++ l
def linkL (x : Nat) (l : List UInt8) : List UInt8 := le 8 x ++ (le 8 l.length ++ l)
def chain (x : Nat) (l : List UInt8) : Nat := fnv (linkL x l)
theorem crc_fin (l : List UInt8) : bits .xor .u32 IntKind.u32.max ((crcF l 4294967295 : Nat) : Int) = ((crc l : Nat) : Int) := by
  rw [show IntKind.u32.max = ((4294967295 : Nat) : Int) from by decide, xorc _ _ (by decide) (crcF_lt l (by decide)), Nat.xor_comm]; rfl
end P5
end Go.Proofs.Ytgaodeffbgppmaa


namespace Go.Proofs.Ytgaodeffbgppmaa
open Go.X Go.RowKit
set_option linter.unusedSimpArgs false
set_option linter.unusedVariables false
open P5
namespace P5
theorem take_snocB (s : ByteArray) {k : Nat} (h : k < s.size) : s.data.toList.take (k + 1) = s.data.toList.take k ++ [s.get! k] := by
  rw [take_snoc s k h]
  simp [ByteArray.get!, getElem!_pos, h, ByteArray.getElem_eq_getElem_data]
theorem crcT {s : ByteArray} {k : Nat} (h : k < s.size) : crcF (s.data.toList.take (k + 1)) 4294967295 = stps 8 (crcF (s.data.toList.take k) 4294967295 ^^^ (s.get! k).toNat) := by
  rw [take_snocB s h, crcF_snoc]; rfl
theorem xorX (y c : Nat) (h : y < 4294967296) (hc : c < 4294967296) : IntKind.u32.wrap ((BitVec.ofInt IntKind.u32.bits (y : Int) ^^^ BitVec.ofInt IntKind.u32.bits (c : Int)).toNat : Nat) = ((y ^^^ c : Nat) : Int) := xorc y c h hc
theorem andX1 (y : Nat) (h : y < 4294967296) : IntKind.u32.wrap ((BitVec.ofInt IntKind.u32.bits (y : Int) &&& BitVec.ofInt IntKind.u32.bits 1).toNat : Nat) = ((y % 2 : Nat) : Int) := and1 y h
theorem shr1 (y : Nat) : (y : Int).fdiv (2 ^ min (Int.toNat 1) IntKind.u32.bits) = ((y / 2 : Nat) : Int) := by
  rw [show (2 : Int) ^ min (Int.toNat 1) IntKind.u32.bits = 2 from rfl, Int.fdiv_eq_ediv_of_nonneg _ (by omega)]
  omega
theorem u32b (b : UInt8) : IntKind.u32.wrap (b.toNat : Int) = (b.toNat : Int) := by
  have := b.toNat_lt
  rw [IntKind.wrap_u32]; omega
end P5

set_option maxRecDepth 10000 in
theorem ccrc (s : ByteArray) (hs : s.size ≤ 140737488355328) :
    Ctr Try.prog 82 [.c (.s s)] [] fun v h => v = .c (.i .u32 (crc s.data.toList : Nat)) ∧ h = [] := by
  refine Ctr.mk' tbv mixed Try.func82 rfl rfl rfl (fun _ _ => by kernel_rfl) (by kernel_rfl) (by rfl) (by rfl) (by (repeat' first | refine And.intro ?_ ?_ | exact xeC | fail)) ?_
  repeat' (first | (fail_if_success (with_reducible refine xstp ?_)); first | ((with_reducible refine And.intro (fun (hb : _ = true) => ?_) (fun (hb : _ = false) => ?_)) <;> replace hb := xnC hb <;> (try first | exact xfC | exact bff hb (by assumption) | exact bff (by assumption) hb)) | (with_reducible refine Both.mk ?_ ?_) | ((with_reducible refine And.intro ?_ ?_); focus exact xoC) | ((with_reducible refine Or.inl ⟨?_, ?_, ?_⟩); (focus rfl); focus exact xaC) | ((with_reducible refine xwB ?_ ?_); focus exact xaC) | ((with_reducible refine xwC ?_ ?_); focus exact xaC) | ((with_reducible refine xwD ?_ ?_); focus exact xaC) | ((with_reducible refine xwE ?_ ?_); focus exact xaC) | (with_reducible intro hc; (try simp only [capsP, and_true] at hc); (try exact xfC)) | ((fail_if_success (with_reducible first | refine xgon ?_ | intro _)); (conv => whnf); (fail_if_success (fail_if_success (with_reducible first | refine xstp ?_ | refine Both.mk ?_ ?_ | refine xgon ?_ | intro _)))))
  refine LoopK.mk' {k : Nat // k ≤ s.size}
    (fun ⟨k, _⟩ => ⟨[(0, .c (.s s)), (3, .c (.i .u32 (crcF (s.data.toList.take k) 4294967295 : Nat))), (7, .c (.i .i64 (s.size : Nat))), (8, .c (.i .i64 (k : Nat)))], []⟩) (fun k => s.size - k.1)
    ⟨⟨0, Nat.zero_le _⟩, [], ?_⟩ ?_
  · (repeat' first | refine And.intro ?_ ?_ | exact xeC | fail)
  rintro ⟨k, hk⟩
  have hx := crcF_lt (s.data.toList.take k) (x := 4294967295) (by decide)
  have hT := @crcT s k
  repeat' (first | (fail_if_success (with_reducible refine xstp ?_)); first | ((with_reducible refine And.intro (fun (hb : _ = true) => ?_) (fun (hb : _ = false) => ?_)) <;> replace hb := xnC hb <;> (try first | exact xfC | exact bff hb (by assumption) | exact bff (by assumption) hb)) | (with_reducible refine Both.mk ?_ ?_) | ((with_reducible refine And.intro ?_ ?_); focus exact xoC) | ((with_reducible refine Or.inl ⟨?_, ?_, ?_⟩); (focus rfl); focus exact xaC) | ((with_reducible refine xwB ?_ ?_); focus exact xaC) | ((with_reducible refine xwC ?_ ?_); focus exact xaC) | ((with_reducible refine xwD ?_ ?_); focus exact xaC) | ((with_reducible refine xwE ?_ ?_); focus exact xaC) | (with_reducible intro hc; (try simp only [capsP, and_true] at hc); (try exact xfC)) | ((fail_if_success (with_reducible first | refine xgon ?_ | intro _)); (conv => whnf); (fail_if_success (fail_if_success (with_reducible first | refine xstp ?_ | refine Both.mk ?_ ?_ | refine xgon ?_ | intro _)))))
  · have hx1 := xorb_lt hx (s.get! k)
    have hT := hT (by omega)
    refine LoopK.mk' {j : Nat // j ≤ 8}
      (fun ⟨j, _⟩ => ⟨[(0, .c (.s s)), (3, .c (.i .u32 (stps j (crcF (s.data.toList.take k) 4294967295 ^^^ (s.get! k).toNat) : Nat))), (7, .c (.i .i64 (s.size : Nat))), (8, .c (.i .i64 (k : Nat))), (17, .c (.i .i64 (j : Nat)))], []⟩) (fun j => 8 - j.1)
      ⟨⟨0, Nat.zero_le _⟩, [], ?_⟩ ?_
    · (repeat' first | refine And.intro ?_ ?_ | exact xeC | fail)
      rw [Int.toNat_natCast, u32b, xorX _ _ hx (by have := (s.get! k).toNat_lt; omega)]
      rfl
    rintro ⟨j, hj⟩
    have hy := stps_lt j hx1
    have hS := stps_succ j (crcF (s.data.toList.take k) 4294967295 ^^^ (s.get! k).toNat)
    have hE : j = 8 → stps j (crcF (s.data.toList.take k) 4294967295 ^^^ (s.get! k).toNat) = crcF (s.data.toList.take (k + 1)) 4294967295 := fun h => by subst h; exact hT.symm
    repeat' (first | (fail_if_success (with_reducible refine xstp ?_)); first | ((with_reducible refine And.intro (fun (hb : _ = true) => ?_) (fun (hb : _ = false) => ?_)) <;> replace hb := xnC hb <;> (try first | exact xfC | exact bff hb (by assumption) | exact bff (by assumption) hb)) | (with_reducible refine Both.mk ?_ ?_) | ((with_reducible refine And.intro ?_ ?_); focus exact xoC) | ((with_reducible refine Or.inl ⟨?_, ?_, ?_⟩); (focus rfl); focus exact xaC) | ((with_reducible refine xwB ?_ ?_); focus exact xaC) | ((with_reducible refine xwC ?_ ?_); focus exact xaC) | ((with_reducible refine xwD ?_ ?_); focus exact xaC) | ((with_reducible refine xwE ?_ ?_); focus exact xaC) | (with_reducible intro hc; (try simp only [capsP, and_true] at hc); (try exact xfC)) | ((fail_if_success (with_reducible first | refine xgon ?_ | intro _)); (conv => whnf); (fail_if_success (fail_if_success (with_reducible first | refine xstp ?_ | refine Both.mk ?_ ?_ | refine xgon ?_ | intro _)))))
    · rw [andX1 _ hy] at hb
      refine ⟨⟨j + 1, by omega⟩, [], by simp only; omega, ?_⟩
      (repeat' first | refine And.intro ?_ ?_ | exact xeC | fail)
      rw [shr1, show (2197175160 : Int) = ((2197175160 : Nat) : Int) from rfl, xorX _ _ (by omega) (by omega), hS, stp, if_pos (by omega)]
    · rw [andX1 _ hy] at hb
      refine ⟨⟨j + 1, by omega⟩, [], by simp only; omega, ?_⟩
      (repeat' first | refine And.intro ?_ ?_ | exact xeC | fail)
      rw [shr1, hS, stp, if_neg (by omega)]
    · refine ⟨⟨k + 1, by omega⟩, [], by simp only; omega, ?_⟩
      (repeat' first | refine And.intro ?_ ?_ | exact xeC | fail)
      exact congrArg _ (hE (by omega))
  · refine FinK.mk ⟨[], _, _, ⟨rfl, rfl⟩, ?_⟩; (repeat' first | refine And.intro ?_ ?_ | exact xeC | fail)
    rw [take_all s k (by omega)]
    exact crc_fin _

end Go.Proofs.Ytgaodeffbgppmaa


namespace Go.Proofs.Ytgaodeffbgppmaa
open Go.X Go.RowKit
set_option linter.unusedSimpArgs false
set_option linter.unusedVariables false
open P5
namespace P5
def ei (n k : Nat) : List UInt8 := le k n ++ List.replicate (8 - k) 0
theorem ei_len {n k : Nat} (h : k ≤ 8) : (ei n k).length = 8 := by simp [ei, le_length]; omega
theorem ei_set {n k : Nat} (h : k < 8) : (ei n k).set k (UInt8.ofNat (n / 256 ^ k % 256)) = ei n (k + 1) := by
  unfold ei
  rw [le_snoc, List.set_append_right _ _ (by rw [le_length]; exact Nat.le_refl _), le_length, Nat.sub_self, show 8 - k = (8 - (k + 1)) + 1 by omega, List.replicate_succ]
  simp
theorem w8 (x : Int) : IntKind.u8.wrap x = x % 256 := by rw [IntKind.wrap_u8]
theorem byteX (n i : Nat) (hi : i < 8) : IntKind.u8.wrap ((n : Int).fdiv (2 ^ min (Int.toNat (8 * (i : Int))) IntKind.u64.bits)) = ((UInt8.ofNat (n / 256 ^ i % 256)).toNat : Int) := by
  rw [show min (Int.toNat (8 * (i : Int))) IntKind.u64.bits = 8 * i by show min _ 64 = _; omega, Int.fdiv_eq_ediv_of_nonneg _ (Int.le_of_lt (Int.pow_pos (by decide))), w8, byte_mod]
  have e : (2 : Int) ^ (8 * i) = ((256 ^ i : Nat) : Int) := by rw [show (256 : Nat) = 2 ^ 8 from rfl, ← Nat.pow_mul]; simp
  rw [e, Int.natCast_ediv]
end P5

set_option maxRecDepth 10000 in
theorem ceight (n k : Nat) (hk : k ≤ 8) :
    Ctr Try.prog 81 [.c (.i .u64 (n : Nat)), .c (.i .i64 (k : Nat))] [] fun v h => v = .a (flatR (rowOf encB8 (ei n k)) 0 8) ∧ h = [] := by
  refine Ctr.mk' tbv mixed Try.func81 rfl rfl rfl (fun _ _ => by kernel_rfl) (by kernel_rfl) (by rfl) (by rfl) (by (repeat' first | refine And.intro ?_ ?_ | exact xeC | fail)) ?_
  repeat' (first | (fail_if_success (with_reducible refine xstp ?_)); first | ((with_reducible refine And.intro (fun (hb : _ = true) => ?_) (fun (hb : _ = false) => ?_)) <;> replace hb := xnC hb <;> (try first | exact xfC | exact bff hb (by assumption) | exact bff (by assumption) hb)) | (with_reducible refine Both.mk ?_ ?_) | ((with_reducible refine And.intro ?_ ?_); focus exact xoC) | ((with_reducible refine Or.inl ⟨?_, ?_, ?_⟩); (focus rfl); focus exact xaC) | ((with_reducible refine xwB ?_ ?_); focus exact xaC) | ((with_reducible refine xwC ?_ ?_); focus exact xaC) | ((with_reducible refine xwD ?_ ?_); focus exact xaC) | ((with_reducible refine xwE ?_ ?_); focus exact xaC) | (with_reducible intro hc; (try simp only [capsP, and_true] at hc); (try exact xfC)) | ((fail_if_success (with_reducible first | refine xgon ?_ | intro _)); (conv => whnf); (fail_if_success (fail_if_success (with_reducible first | refine xstp ?_ | refine Both.mk ?_ ?_ | refine xgon ?_ | intro _)))))
  refine LoopK.mk' {i : Nat // i ≤ k}
    (fun ⟨i, _⟩ => ⟨[(0, .c (.i .u64 (n : Nat))), (4, .c (.pe 0 0 1 0 0)), (5, .c (.pe 1 0 1 0 0)), (7, .c (.i .i64 (k : Nat))), (8, .c (.i .i64 (i : Nat)))], [.one (.row true false 146 1 8 8 (rowOf encB8 (ei 0 0))), .one (.row true false 146 1 8 8 (rowOf encB8 (ei n i)))]⟩) (fun i => k - i.1)
    ⟨⟨0, Nat.zero_le _⟩, [0, 1], ?_⟩ ?_
  · (repeat' first | refine And.intro ?_ ?_ | exact xeC | fail)
    all_goals (
      intro i hi
      rcases (by omega : i = 0 ∨ i = 1 ∨ i = 2 ∨ i = 3 ∨ i = 4 ∨ i = 5 ∨ i = 6 ∨ i = 7) with rfl | rfl | rfl | rfl | rfl | rfl | rfl | rfl <;> rfl)
  rintro ⟨i, hi⟩
  repeat' (first | (fail_if_success (with_reducible refine xstp ?_)); first | ((with_reducible refine And.intro (fun (hb : _ = true) => ?_) (fun (hb : _ = false) => ?_)) <;> replace hb := xnC hb <;> (try first | exact xfC | exact bff hb (by assumption) | exact bff (by assumption) hb)) | (with_reducible refine Both.mk ?_ ?_) | ((with_reducible refine And.intro ?_ ?_); focus exact xoC) | ((with_reducible refine Or.inl ⟨?_, ?_, ?_⟩); (focus rfl); focus exact xaC) | ((with_reducible refine xwB ?_ ?_); focus exact xaC) | ((with_reducible refine xwC ?_ ?_); focus exact xaC) | ((with_reducible refine xwD ?_ ?_); focus exact xaC) | ((with_reducible refine xwE ?_ ?_); focus exact xaC) | (with_reducible intro hc; (try simp only [capsP, and_true] at hc); (try exact xfC)) | ((fail_if_success (with_reducible first | refine xgon ?_ | intro _)); (conv => whnf); (fail_if_success (fail_if_success (with_reducible first | refine xstp ?_ | refine Both.mk ?_ ?_ | refine xgon ?_ | intro _)))))
  · refine ⟨⟨i + 1, by omega⟩, [0, 1], by simp only; omega, ?_⟩
    (repeat' first | refine And.intro ?_ ?_ | exact xeC | fail)
    intro q hq
    simp only [Int.toNat_natCast, Nat.zero_add, rowOf]
    rw [← ei_set (by omega), getD_set _ _ _ _ (by rw [ei_len (by omega)]; omega)]
    by_cases h : q = i
    · rw [if_pos h, if_pos h, encB8, byteX n i (by omega)]
    · rw [if_neg h, if_neg h]
  · obtain rfl : i = k := by omega
    refine FinK.mk ⟨[], _, _, ⟨rfl, rfl⟩, ?_⟩; (repeat' first | refine And.intro ?_ ?_ | exact xeC | fail)

namespace P5
theorem flat_row (l : List UInt8) : ∀ (m e i : Nat), i < m → chunkOf 1 (flatR (rowOf encB8 l) e m) i = encB8 (l.getD (e + i) default)
  | 0, _, _, h => by omega
  | m + 1, e, i, h => by
    unfold flatR
    cases i with
    | zero => rfl
    | succ i =>
      rw [show e + (i + 1) = e + 1 + i by omega, ← flat_row l m (e + 1) i (by omega)]
      simp [chunkOf, rowOf, encB8]
theorem flatRk (l : List UInt8) (σ : List Sg) (N : Nat) : ∀ m e, (flatR (rowOf encB8 l) e m).map (C.rk σ N) = flatR (rowOf encB8 l) e m
  | 0, _ => rfl
  | m + 1, e => by
    unfold flatR
    rw [List.map_append, flatRk l σ N m (e + 1)]
    rfl
theorem seal_row (l : List UInt8) (z : Nat → List C) (i : Nat) (hi : i < 8) : splF 0 8 z 0 (chunkOf 1 (flatR (rowOf encB8 l) 0 8)) i = encB8 (l.getD i default) := by
  unfold splF
  rw [if_neg (by omega), if_pos (by omega), flat_row l 8 0 _ (by omega)]
  congr 2
  omega
theorem ei_take {n k : Nat} : (ei n k).take k = le k n := by
  unfold ei
  rw [List.take_append_of_le_length (by rw [le_length]; exact Nat.le_refl _), List.take_of_length_le (by rw [le_length]; exact Nat.le_refl _)]
end P5

theorem rH15kC0 {σ : List Sg} {H h' : List Fam} {v : T} {K : T → List Fam → Prop} {H' : List Fam} {v' : T} {N : Nat} (hk : K v' H') (hN : H.length = N := by (try simp only [↓List.length_cons, ↓List.length_nil, Nat.reduceAdd]) <;> rfl) (h : givesF σ N H σ h' = some H' := by (try simp (maxSteps := 1000000) only [givesF, setF, updF, Fam.zeroth, Fam.rk, Ck.rk, C.rk, E.rk, T.rk, key, List.map_cons, List.map_nil, List.cons_append, List.nil_append, List.length_cons, List.length_nil, Option.map_some, Option.bind_some, Nat.reduceAdd, Nat.zero_add, Nat.add_zero, Nat.add_sub_cancel_left, Int.toNat_natCast, reps, List.all_cons, List.all_nil, C.flat, List.append_eq, Bool.not_true, Bool.and_true, Bool.or_false, Bool.or_self, Bool.not_false, List.append_nil, Bool.and_self, flatRk]) <;> rfl) (hv : v.rk σ N = v' := by (try simp only [givesF, setF, updF, Fam.zeroth, Fam.rk, Ck.rk, C.rk, E.rk, T.rk, key, List.map_cons, List.map_nil, List.cons_append, List.nil_append, List.length_cons, List.length_nil, Option.map_some, Option.bind_some, Nat.reduceAdd, Nat.zero_add, Nat.add_zero, Nat.add_sub_cancel_left, Int.toNat_natCast, reps, List.all_cons, List.all_nil, C.flat, List.append_eq, Bool.not_true, Bool.and_true, Bool.or_false, Bool.or_self, Bool.not_false, List.append_nil, Bool.and_self, flatRk]) <;> rfl) : RetG σ H h' v K := ret_mk3 hN h hv hk
set_option maxRecDepth 10000 in
theorem cSeal (s : ByteArray) (hs : s.size ≤ 140737488355320) :
    Ctr Try.prog 64 [.c (.s s)] [] fun v h => v = .c (.s (mkS (sealL s.data.toList))) ∧ h = [] := by
  refine Ctr.mk' tbv mixed Try.func64 rfl rfl rfl (fun _ _ => by kernel_rfl) (by kernel_rfl) (by rfl) (by rfl) (by (repeat' first | refine And.intro ?_ ?_ | exact xeC | fail)) ?_
  repeat' (first | (fail_if_success (with_reducible refine xstp ?_)); first | ((with_reducible refine And.intro (fun (hb : _ = true) => ?_) (fun (hb : _ = false) => ?_)) <;> replace hb := xnC hb <;> (try first | exact xfC | exact bff hb (by assumption) | exact bff (by assumption) hb)) | (with_reducible refine Both.mk ?_ ?_) | ((with_reducible refine And.intro ?_ ?_); focus exact xoC) | ((with_reducible refine Or.inl ⟨?_, ?_, ?_⟩); (focus rfl); focus exact xaC) | ((with_reducible refine xwB ?_ ?_); focus exact xaC) | ((with_reducible refine xwC ?_ ?_); focus exact xaC) | ((with_reducible refine xwD ?_ ?_); focus exact xaC) | ((with_reducible refine xwE ?_ ?_); focus exact xaC) | (with_reducible intro hc; (try simp only [capsP, and_true] at hc); (try exact xfC)) | ((fail_if_success (with_reducible first | refine xgon ?_ | intro _)); (conv => whnf); (fail_if_success (fail_if_success (with_reducible first | refine xstp ?_ | refine Both.mk ?_ ?_ | refine xgon ?_ | intro _)))))
  refine xcal (σ := []) (nl := []) (ccrc s (by omega)) ?_
  rintro v h' ⟨rfl, rfl⟩ hcaps
  refine xret ?_
  repeat' (first | (fail_if_success (with_reducible refine xstp ?_)); first | ((with_reducible refine And.intro (fun (hb : _ = true) => ?_) (fun (hb : _ = false) => ?_)) <;> replace hb := xnC hb <;> (try first | exact xfC | exact bff hb (by assumption) | exact bff (by assumption) hb)) | (with_reducible refine Both.mk ?_ ?_) | ((with_reducible refine And.intro ?_ ?_); focus exact xoC) | ((with_reducible refine Or.inl ⟨?_, ?_, ?_⟩); (focus rfl); focus exact xaC) | ((with_reducible refine xwB ?_ ?_); focus exact xaC) | ((with_reducible refine xwC ?_ ?_); focus exact xaC) | ((with_reducible refine xwD ?_ ?_); focus exact xaC) | ((with_reducible refine xwE ?_ ?_); focus exact xaC) | (with_reducible intro hc; (try simp only [capsP, and_true] at hc); (try exact xfC)) | ((fail_if_success (with_reducible first | refine xgon ?_ | intro _)); (conv => whnf); (fail_if_success (fail_if_success (with_reducible first | refine xstp ?_ | refine Both.mk ?_ ?_ | refine xgon ?_ | intro _)))))
  have hw : IntKind.u64.wrap (crc s.data.toList : Nat) = (crc s.data.toList : Nat) := by
    have := crc_lt s.data.toList
    rw [IntKind.wrap_u64]; omega
  rw [hw]
  refine xcal (σ := []) (nl := []) (ceight (crc s.data.toList) 4 (by omega)) ?_
  rintro v h' ⟨rfl, rfl⟩ hcaps
  refine rH15kC0 ?_
  repeat' (first | (fail_if_success (with_reducible refine xstp ?_)); first | ((with_reducible refine And.intro (fun (hb : _ = true) => ?_) (fun (hb : _ = false) => ?_)) <;> replace hb := xnC hb <;> (try first | exact xfC | exact bff hb (by assumption) | exact bff (by assumption) hb)) | (with_reducible refine Both.mk ?_ ?_) | ((with_reducible refine And.intro ?_ ?_); focus exact xoC) | ((with_reducible refine Or.inl ⟨?_, ?_, ?_⟩); (focus rfl); focus exact xaC) | ((with_reducible refine xwB ?_ ?_); focus exact xaC) | ((with_reducible refine xwC ?_ ?_); focus exact xaC) | ((with_reducible refine xwD ?_ ?_); focus exact xaC) | ((with_reducible refine xwE ?_ ?_); focus exact xaC) | (with_reducible intro hc; (try simp only [capsP, and_true] at hc); (try exact xfC)) | ((fail_if_success (with_reducible first | refine xgon ?_ | intro _)); (conv => whnf); (fail_if_success (fail_if_success (with_reducible first | refine xstp ?_ | refine Both.mk ?_ ?_ | refine xgon ?_ | intro _)))))
  refine ⟨⟨rfl, rfl, by decide, fun i hi => ?_⟩, ?_⟩
  · rw [seal_row _ _ _ (show 0 + i < 8 by have : i < 4 := hi; omega)]; rfl
  generalize hB : bytesOf _ _ _ = B
  obtain rfl : B = mkS (le 4 (crc s.data.toList)) := by
    rw [← hB]
    refine (bytesOf_row (ei (crc s.data.toList) 4) _ 0 4 (fun i hi => ?_) (by rw [ei_len (by omega)]; omega)).trans (by rw [List.drop_zero, ei_take])
    refine (seal_row _ _ _ (show 0 + i < 8 by omega)).trans rfl
  have h4 : (mkS (le 4 (crc s.data.toList))).size = 4 := le_length 4 _
  repeat' (first | (fail_if_success (with_reducible refine xstp ?_)); first | ((with_reducible refine And.intro (fun (hb : _ = true) => ?_) (fun (hb : _ = false) => ?_)) <;> replace hb := xnC hb <;> (try first | exact xfC | exact bff hb (by assumption) | exact bff (by assumption) hb)) | (with_reducible refine Both.mk ?_ ?_) | ((with_reducible refine And.intro ?_ ?_); focus exact xoC) | ((with_reducible refine Or.inl ⟨?_, ?_, ?_⟩); (focus rfl); focus exact xaC) | ((with_reducible refine xwB ?_ ?_); focus exact xaC) | ((with_reducible refine xwC ?_ ?_); focus exact xaC) | ((with_reducible refine xwD ?_ ?_); focus exact xaC) | ((with_reducible refine xwE ?_ ?_); focus exact xaC) | (with_reducible intro hc; (try simp only [capsP, and_true] at hc); (try exact xfC)) | ((fail_if_success (with_reducible first | refine xgon ?_ | intro _)); (conv => whnf); (fail_if_success (fail_if_success (with_reducible first | refine xstp ?_ | refine Both.mk ?_ ?_ | refine xgon ?_ | intro _)))))
  rw [← mkS_of s, mkS_append]
  refine FinK.mk ⟨[], _, _, ⟨rfl, rfl⟩, ?_⟩; (repeat' first | refine And.intro ?_ ?_ | exact xeC | fail)

/-- What Open gives: the string, the error. -/
def openL (l : List UInt8) : List UInt8 × Nat := if l.length < 4 then ([], 1) else if sealL (l.drop 4) = l then (l.drop 4, 0) else ([], 11)

set_option maxRecDepth 10000 in
theorem cOpen (l : List UInt8) (hs : l.length ≤ 140737488355320) :
    Ctr Try.prog 62 [.c (.s (mkS l))] [] fun v h => v = .t [.c (.s (mkS (openL l).1)), .c (.i .i64 ((openL l).2 : Nat))] ∧ h = [] := by
  refine Ctr.mk' tbv mixed Try.func62 rfl rfl rfl (fun _ _ => by kernel_rfl) (by kernel_rfl) (by rfl) (by rfl) (by (repeat' first | refine And.intro ?_ ?_ | exact xeC | fail)) ?_
  repeat' (first | (fail_if_success (with_reducible refine xstp ?_)); first | ((with_reducible refine And.intro (fun (hb : _ = true) => ?_) (fun (hb : _ = false) => ?_)) <;> replace hb := xnC hb <;> (try first | exact xfC | exact bff hb (by assumption) | exact bff (by assumption) hb)) | (with_reducible refine Both.mk ?_ ?_) | ((with_reducible refine And.intro ?_ ?_); focus exact xoC) | ((with_reducible refine Or.inl ⟨?_, ?_, ?_⟩); (focus rfl); focus exact xaC) | ((with_reducible refine xwB ?_ ?_); focus exact xaC) | ((with_reducible refine xwC ?_ ?_); focus exact xaC) | ((with_reducible refine xwD ?_ ?_); focus exact xaC) | ((with_reducible refine xwE ?_ ?_); focus exact xaC) | (with_reducible intro hc; (try simp only [capsP, and_true] at hc); (try exact xfC)) | ((fail_if_success (with_reducible first | refine xgon ?_ | intro _)); (conv => whnf); (fail_if_success (fail_if_success (with_reducible first | refine xstp ?_ | refine Both.mk ?_ ?_ | refine xgon ?_ | intro _)))))
  · rw [show openL l = ([], 1) by unfold openL; rw [if_pos (by have : (mkS l).size = l.length := rfl; omega)]]
    refine FinK.mk ⟨[], _, _, ⟨rfl, rfl⟩, ?_⟩; (repeat' first | refine And.intro ?_ ?_ | exact xeC | fail)
  have hz : (mkS l).size = l.length := rfl
  have he : (mkS l).extract (Int.toNat 4) (mkS l).size = mkS (l.drop 4) := by
    rw [mkS_ext, hz, List.take_length]; rfl
  rw [he]
  refine xcal (σ := []) (nl := []) (cSeal (mkS (l.drop 4)) (by rw [mkS_size, List.length_drop]; omega)) ?_
  rintro v h' ⟨rfl, rfl⟩ hcaps
  rw [mkS_list]
  refine xret ?_
  repeat' (first | (fail_if_success (with_reducible refine xstp ?_)); first | ((with_reducible refine And.intro (fun (hb : _ = true) => ?_) (fun (hb : _ = false) => ?_)) <;> replace hb := xnC hb <;> (try first | exact xfC | exact bff hb (by assumption) | exact bff (by assumption) hb)) | (with_reducible refine Both.mk ?_ ?_) | ((with_reducible refine And.intro ?_ ?_); focus exact xoC) | ((with_reducible refine Or.inl ⟨?_, ?_, ?_⟩); (focus rfl); focus exact xaC) | ((with_reducible refine xwB ?_ ?_); focus exact xaC) | ((with_reducible refine xwC ?_ ?_); focus exact xaC) | ((with_reducible refine xwD ?_ ?_); focus exact xaC) | ((with_reducible refine xwE ?_ ?_); focus exact xaC) | (with_reducible intro hc; (try simp only [capsP, and_true] at hc); (try exact xfC)) | ((fail_if_success (with_reducible first | refine xgon ?_ | intro _)); (conv => whnf); (fail_if_success (fail_if_success (with_reducible first | refine xstp ?_ | refine Both.mk ?_ ?_ | refine xgon ?_ | intro _)))))
  · have h : ¬ sealL (l.drop 4) = l := fun e => hb (by rw [e])
    rw [show openL l = ([], 11) by unfold openL; rw [if_neg (by omega), if_neg h]]
    refine FinK.mk ⟨[], _, _, ⟨rfl, rfl⟩, ?_⟩; (repeat' first | refine And.intro ?_ ?_ | exact xeC | fail)
  · have h := mkS_inj.1 hb
    rw [show openL l = (l.drop 4, 0) by unfold openL; rw [if_neg (by omega), if_pos h], he]
    refine FinK.mk ⟨[], _, _, ⟨rfl, rfl⟩, ?_⟩; (repeat' first | refine And.intro ?_ ?_ | exact xeC | fail)

end Go.Proofs.Ytgaodeffbgppmaa


namespace Go.Proofs.Ytgaodeffbgppmaa
open Go.X
set_option linter.unusedSimpArgs false
set_option linter.unusedVariables false
structure Pk where
  (k fr to w r q f la at' : Int) (m : List Int) (p : List UInt8)
deriving Inhabited, DecidableEq
def encP (mm : C) (x : Pk) : List C := [.i .i64 x.k, .i .i64 x.fr, .i .i64 x.to, .i .i64 x.w, .i .i64 x.r, .i .i64 x.q, .i .i64 x.f, .i .i64 x.la, .i .i64 x.at', mm, .s (mkS x.p)]
abbrev ints (w : Bool) (l : List Int) (c : Nat) : Ck := .row w false 3 1 l.length c (rowOf Go.X.encI l)
/-- The numbers that a kind uses are in range. -/
def rngP (x : Pk) : Prop := (1 ≤ x.k ∧ x.k ≤ 5) ∧ (0 ≤ x.fr ∧ x.fr ≤ 7) ∧ (0 ≤ x.to ∧ x.to ≤ 7) ∧ ((x.k = 5 ∧ 0 ≤ x.w ∨ 1 ≤ x.w) ∧ x.w ≤ 1073741824) ∧ ((x.k = 5 ∧ 0 ≤ x.r ∨ 1 ≤ x.r) ∧ x.r ≤ 1073741824) ∧
  ((x.k = 2 ∨ x.k = 3) ∨ (x.k = 1 ∧ 1 ≤ x.q ∧ x.q ≤ 1099511627776) ∨ (x.k = 5 ∧ 0 ≤ x.q ∧ x.q ≤ 1099511627776) ∨ (x.k = 4 ∧ 0 ≤ x.q ∧ x.q ≤ 1)) ∧
  ((x.k = 1 ∨ x.k = 5) ∨ (1 ≤ x.f ∧ x.f ≤ 1099511627776) ∧ (0 ≤ x.la ∧ x.la ≤ 1099511627776)) ∧ (0 ≤ x.at' ∧ x.at' ≤ 1099511627776)
instance (x : Pk) : Decidable (rngP x) := by unfold rngP; infer_instance

set_option maxRecDepth 10000 in
theorem cwithin (n lo hi : Int) :
    Ctr Try.prog 34 [.c (.i .i64 n), .c (.i .i64 lo), .c (.i .i64 hi)] [] fun v h => v = .c (.b (decide (lo ≤ n ∧ n ≤ hi))) ∧ h = [] := by
  refine Ctr.mk' tbv mixed Try.func34 rfl rfl rfl (fun _ _ => by kernel_rfl) (by kernel_rfl) (by rfl) (by rfl) (by (repeat' first | refine And.intro ?_ ?_ | exact xeC | fail)) ?_
  repeat' (first | (fail_if_success (with_reducible refine xstp ?_)); first | ((with_reducible refine And.intro (fun (hb : _ = true) => ?_) (fun (hb : _ = false) => ?_)) <;> replace hb := xnC hb <;> (try first | exact xfC | exact bff hb (by assumption) | exact bff (by assumption) hb)) | (with_reducible refine Both.mk ?_ ?_) | ((with_reducible refine And.intro ?_ ?_); focus exact xoC) | ((with_reducible refine Or.inl ⟨?_, ?_, ?_⟩); (focus rfl); focus exact xaC) | ((with_reducible refine xwB ?_ ?_); focus exact xaC) | ((with_reducible refine xwC ?_ ?_); focus exact xaC) | ((with_reducible refine xwD ?_ ?_); focus exact xaC) | ((with_reducible refine xwE ?_ ?_); focus exact xaC) | (with_reducible intro hc; (try simp only [capsP, and_true] at hc); (try exact xfC)) | ((fail_if_success (with_reducible first | refine xgon ?_ | intro _)); (conv => whnf); (fail_if_success (fail_if_success (with_reducible first | refine xstp ?_ | refine Both.mk ?_ ?_ | refine xgon ?_ | intro _)))))
  · refine FinK.mk ⟨[], _, _, ⟨rfl, rfl⟩, ?_⟩; (repeat' first | refine And.intro ?_ ?_ | exact xeC | fail)
    (first | exact decide_eq_true (by omega) | exact decide_eq_false (by omega) | exact (decide_eq_true (by omega)).symm | exact (decide_eq_false (by omega)).symm | exact decide_eq_decide.2 (by omega))
  · refine FinK.mk ⟨[], _, _, ⟨rfl, rfl⟩, ?_⟩; (repeat' first | refine And.intro ?_ ?_ | exact xeC | fail)
    (first | exact decide_eq_true (by omega) | exact decide_eq_false (by omega) | exact (decide_eq_true (by omega)).symm | exact (decide_eq_false (by omega)).symm | exact decide_eq_decide.2 (by omega))

/-- Which fields a kind uses: ends, seq, first, missing, payload. -/
def usesL (k : Int) : List C := [.b (decide (1 ≤ k ∧ k ≤ 5)), .b (decide (k = 1 ∨ k = 4 ∨ k = 5)), .b (decide (k = 2 ∨ k = 3 ∨ k = 4)), .b (decide (k = 3)), .b (decide (k = 1 ∨ k = 5))]
set_option maxRecDepth 10000 in
theorem cuses (k : Int) :
    Ctr Try.prog 42 [.c (.i .i64 k)] [] fun v h => v = .t [.a (usesL k), .c (.b (decide (1 ≤ k ∧ k ≤ 5)))] ∧ h = [] := by
  refine Ctr.mk' tbv mixed Try.func42 rfl rfl rfl (fun _ _ => by kernel_rfl) (by kernel_rfl) (by rfl) (by rfl) (by (repeat' first | refine And.intro ?_ ?_ | exact xeC | fail)) ?_
  repeat' (first | (fail_if_success (with_reducible refine xstp ?_)); first | ((with_reducible refine And.intro (fun (hb : _ = true) => ?_) (fun (hb : _ = false) => ?_)) <;> replace hb := xnC hb <;> (try first | exact xfC | exact bff hb (by assumption) | exact bff (by assumption) hb)) | (with_reducible refine Both.mk ?_ ?_) | ((with_reducible refine And.intro ?_ ?_); focus exact xoC) | ((with_reducible refine Or.inl ⟨?_, ?_, ?_⟩); (focus rfl); focus exact xaC) | ((with_reducible refine xwB ?_ ?_); focus exact xaC) | ((with_reducible refine xwC ?_ ?_); focus exact xaC) | ((with_reducible refine xwD ?_ ?_); focus exact xaC) | ((with_reducible refine xwE ?_ ?_); focus exact xaC) | (with_reducible intro hc; (try simp only [capsP, and_true] at hc); (try exact xfC)) | ((fail_if_success (with_reducible first | refine xgon ?_ | intro _)); (conv => whnf); (fail_if_success (fail_if_success (with_reducible first | refine xstp ?_ | refine Both.mk ?_ ?_ | refine xgon ?_ | intro _)))))
  all_goals (
    refine FinK.mk ⟨[], _, _, ⟨rfl, rfl⟩, ?_⟩; (repeat' first | refine And.intro ?_ ?_ | exact xeC | fail)
    all_goals (first | exact decide_eq_true (by omega) | exact decide_eq_false (by omega) | exact (decide_eq_true (by omega)).symm | exact (decide_eq_false (by omega)).symm | exact decide_eq_decide.2 (by omega)))

theorem rH15pA0 {σ : List Sg} {H h' : List Fam} {v : T} {K : T → List Fam → Prop} {H' : List Fam} {v' : T} {N : Nat} (hk : K v' H') (hN : H.length = N := by (try simp only [↓List.length_cons, ↓List.length_nil, Nat.reduceAdd]) <;> rfl) (h : givesF σ N H σ h' = some H' := by (try simp (maxSteps := 1000000) only [givesF, setF, updF, Fam.zeroth, Fam.rk, Ck.rk, C.rk, E.rk, T.rk, key, List.map_cons, List.map_nil, List.cons_append, List.nil_append, List.length_cons, List.length_nil, Option.map_some, Option.bind_some, Nat.reduceAdd, Nat.zero_add, Nat.add_zero, Nat.add_sub_cancel_left, Int.toNat_natCast, reps, List.all_cons, List.all_nil, C.flat, List.append_eq, Bool.not_true, Bool.and_true, Bool.or_false, Bool.or_self, Bool.not_false, List.append_nil, Bool.and_self, encP, usesL]) <;> rfl) (hv : v.rk σ N = v' := by (try simp only [givesF, setF, updF, Fam.zeroth, Fam.rk, Ck.rk, C.rk, E.rk, T.rk, key, List.map_cons, List.map_nil, List.cons_append, List.nil_append, List.length_cons, List.length_nil, Option.map_some, Option.bind_some, Nat.reduceAdd, Nat.zero_add, Nat.add_zero, Nat.add_sub_cancel_left, Int.toNat_natCast, reps, List.all_cons, List.all_nil, C.flat, List.append_eq, Bool.not_true, Bool.and_true, Bool.or_false, Bool.or_self, Bool.not_false, List.append_nil, Bool.and_self, encP, usesL]) <;> rfl) : RetG σ H h' v K := ret_mk3 hN h hv hk
set_option maxRecDepth 10000 in
theorem cinRange (x : Pk) (n c : Nat) (hk : 1 ≤ x.k ∧ x.k ≤ 5) :
    Ctr Try.prog 59 [.a (encP (.sl 0 0 1 0 n c) x), .a (usesL x.k)] [.one .no] fun v h => v = .c (.b (decide (rngP x))) ∧ h = [.one .no] := by
  refine Ctr.mk' tbv mixed Try.func59 rfl rfl rfl (fun _ _ => by kernel_rfl) (by kernel_rfl) (by rfl) (by rfl) (by (repeat' first | refine And.intro ?_ ?_ | exact xeC | fail)) ?_
  repeat' (first | (fail_if_success (with_reducible refine xstp ?_)); first | ((with_reducible refine And.intro (fun (hb : _ = true) => ?_) (fun (hb : _ = false) => ?_)) <;> replace hb := xnC hb <;> (try first | exact xfC | exact bff hb (by assumption) | exact bff (by assumption) hb)) | (with_reducible refine Both.mk ?_ ?_) | ((with_reducible refine And.intro ?_ ?_); focus exact xoC) | ((with_reducible refine Or.inl ⟨?_, ?_, ?_⟩); (focus rfl); focus exact xaC) | ((with_reducible refine xwB ?_ ?_); focus exact xaC) | ((with_reducible refine xwC ?_ ?_); focus exact xaC) | ((with_reducible refine xwD ?_ ?_); focus exact xaC) | ((with_reducible refine xwE ?_ ?_); focus exact xaC) | (with_reducible intro hc; (try simp only [capsP, and_true] at hc); (try exact xfC)) | ((fail_if_success (with_reducible first | refine xgon ?_ | intro _)); (conv => whnf); (fail_if_success (fail_if_success (with_reducible first | refine xstp ?_ | refine Both.mk ?_ ?_ | refine xgon ?_ | intro _)))))
  · skip
    refine xcal (σ := []) (nl := []) (cwithin (x.fr) (0) (7)) ?_
    rintro v h' ⟨rfl, rfl⟩ hcaps
    refine rH15pA0 ?_
    repeat' (first | (fail_if_success (with_reducible refine xstp ?_)); first | ((with_reducible refine And.intro (fun (hb : _ = true) => ?_) (fun (hb : _ = false) => ?_)) <;> replace hb := xnC hb <;> (try first | exact xfC | exact bff hb (by assumption) | exact bff (by assumption) hb)) | (with_reducible refine Both.mk ?_ ?_) | ((with_reducible refine And.intro ?_ ?_); focus exact xoC) | ((with_reducible refine Or.inl ⟨?_, ?_, ?_⟩); (focus rfl); focus exact xaC) | ((with_reducible refine xwB ?_ ?_); focus exact xaC) | ((with_reducible refine xwC ?_ ?_); focus exact xaC) | ((with_reducible refine xwD ?_ ?_); focus exact xaC) | ((with_reducible refine xwE ?_ ?_); focus exact xaC) | (with_reducible intro hc; (try simp only [capsP, and_true] at hc); (try exact xfC)) | ((fail_if_success (with_reducible first | refine xgon ?_ | intro _)); (conv => whnf); (fail_if_success (fail_if_success (with_reducible first | refine xstp ?_ | refine Both.mk ?_ ?_ | refine xgon ?_ | intro _)))))
    · refine FinK.mk ⟨[0], _, _, ⟨rfl, rfl⟩, ?_⟩; (repeat' first | refine And.intro ?_ ?_ | exact xeC | fail)
      all_goals (first | exact decide_eq_true (by unfold rngP; omega) | exact decide_eq_false (by unfold rngP; omega) | exact (decide_eq_true (by unfold rngP; omega)).symm | exact (decide_eq_false (by unfold rngP; omega)).symm | exact decide_eq_decide.2 (by unfold rngP; omega))
    refine xcal (σ := []) (nl := []) (cwithin (x.to) (0) (7)) ?_
    rintro v h' ⟨rfl, rfl⟩ hcaps
    refine rH15pA0 ?_
    repeat' (first | (fail_if_success (with_reducible refine xstp ?_)); first | ((with_reducible refine And.intro (fun (hb : _ = true) => ?_) (fun (hb : _ = false) => ?_)) <;> replace hb := xnC hb <;> (try first | exact xfC | exact bff hb (by assumption) | exact bff (by assumption) hb)) | (with_reducible refine Both.mk ?_ ?_) | ((with_reducible refine And.intro ?_ ?_); focus exact xoC) | ((with_reducible refine Or.inl ⟨?_, ?_, ?_⟩); (focus rfl); focus exact xaC) | ((with_reducible refine xwB ?_ ?_); focus exact xaC) | ((with_reducible refine xwC ?_ ?_); focus exact xaC) | ((with_reducible refine xwD ?_ ?_); focus exact xaC) | ((with_reducible refine xwE ?_ ?_); focus exact xaC) | (with_reducible intro hc; (try simp only [capsP, and_true] at hc); (try exact xfC)) | ((fail_if_success (with_reducible first | refine xgon ?_ | intro _)); (conv => whnf); (fail_if_success (fail_if_success (with_reducible first | refine xstp ?_ | refine Both.mk ?_ ?_ | refine xgon ?_ | intro _)))))
    · refine FinK.mk ⟨[0], _, _, ⟨rfl, rfl⟩, ?_⟩; (repeat' first | refine And.intro ?_ ?_ | exact xeC | fail)
      all_goals (first | exact decide_eq_true (by unfold rngP; omega) | exact decide_eq_false (by unfold rngP; omega) | exact (decide_eq_true (by unfold rngP; omega)).symm | exact (decide_eq_false (by unfold rngP; omega)).symm | exact decide_eq_decide.2 (by unfold rngP; omega))
    refine xcal (σ := []) (nl := []) (cwithin (x.w) (0) (1073741824)) ?_
    rintro v h' ⟨rfl, rfl⟩ hcaps
    refine rH15pA0 ?_
    repeat' (first | (fail_if_success (with_reducible refine xstp ?_)); first | ((with_reducible refine And.intro (fun (hb : _ = true) => ?_) (fun (hb : _ = false) => ?_)) <;> replace hb := xnC hb <;> (try first | exact xfC | exact bff hb (by assumption) | exact bff (by assumption) hb)) | (with_reducible refine Both.mk ?_ ?_) | ((with_reducible refine And.intro ?_ ?_); focus exact xoC) | ((with_reducible refine Or.inl ⟨?_, ?_, ?_⟩); (focus rfl); focus exact xaC) | ((with_reducible refine xwB ?_ ?_); focus exact xaC) | ((with_reducible refine xwC ?_ ?_); focus exact xaC) | ((with_reducible refine xwD ?_ ?_); focus exact xaC) | ((with_reducible refine xwE ?_ ?_); focus exact xaC) | (with_reducible intro hc; (try simp only [capsP, and_true] at hc); (try exact xfC)) | ((fail_if_success (with_reducible first | refine xgon ?_ | intro _)); (conv => whnf); (fail_if_success (fail_if_success (with_reducible first | refine xstp ?_ | refine Both.mk ?_ ?_ | refine xgon ?_ | intro _)))))
    · refine FinK.mk ⟨[0], _, _, ⟨rfl, rfl⟩, ?_⟩; (repeat' first | refine And.intro ?_ ?_ | exact xeC | fail)
      all_goals (first | exact decide_eq_true (by unfold rngP; omega) | exact decide_eq_false (by unfold rngP; omega) | exact (decide_eq_true (by unfold rngP; omega)).symm | exact (decide_eq_false (by unfold rngP; omega)).symm | exact decide_eq_decide.2 (by unfold rngP; omega))
    refine xcal (σ := []) (nl := []) (cwithin (x.r) (0) (1073741824)) ?_
    rintro v h' ⟨rfl, rfl⟩ hcaps
    refine rH15pA0 ?_
    repeat' (first | (fail_if_success (with_reducible refine xstp ?_)); first | ((with_reducible refine And.intro (fun (hb : _ = true) => ?_) (fun (hb : _ = false) => ?_)) <;> replace hb := xnC hb <;> (try first | exact xfC | exact bff hb (by assumption) | exact bff (by assumption) hb)) | (with_reducible refine Both.mk ?_ ?_) | ((with_reducible refine And.intro ?_ ?_); focus exact xoC) | ((with_reducible refine Or.inl ⟨?_, ?_, ?_⟩); (focus rfl); focus exact xaC) | ((with_reducible refine xwB ?_ ?_); focus exact xaC) | ((with_reducible refine xwC ?_ ?_); focus exact xaC) | ((with_reducible refine xwD ?_ ?_); focus exact xaC) | ((with_reducible refine xwE ?_ ?_); focus exact xaC) | (with_reducible intro hc; (try simp only [capsP, and_true] at hc); (try exact xfC)) | ((fail_if_success (with_reducible first | refine xgon ?_ | intro _)); (conv => whnf); (fail_if_success (fail_if_success (with_reducible first | refine xstp ?_ | refine Both.mk ?_ ?_ | refine xgon ?_ | intro _)))))
    · refine FinK.mk ⟨[0], _, _, ⟨rfl, rfl⟩, ?_⟩; (repeat' first | refine And.intro ?_ ?_ | exact xeC | fail)
      all_goals (first | exact decide_eq_true (by unfold rngP; omega) | exact decide_eq_false (by unfold rngP; omega) | exact (decide_eq_true (by unfold rngP; omega)).symm | exact (decide_eq_false (by unfold rngP; omega)).symm | exact decide_eq_decide.2 (by unfold rngP; omega))
    refine xcal (σ := []) (nl := []) (cwithin (x.q) (0) (1099511627776)) ?_
    rintro v h' ⟨rfl, rfl⟩ hcaps
    refine rH15pA0 ?_
    repeat' (first | (fail_if_success (with_reducible refine xstp ?_)); first | ((with_reducible refine And.intro (fun (hb : _ = true) => ?_) (fun (hb : _ = false) => ?_)) <;> replace hb := xnC hb <;> (try first | exact xfC | exact bff hb (by assumption) | exact bff (by assumption) hb)) | (with_reducible refine Both.mk ?_ ?_) | ((with_reducible refine And.intro ?_ ?_); focus exact xoC) | ((with_reducible refine Or.inl ⟨?_, ?_, ?_⟩); (focus rfl); focus exact xaC) | ((with_reducible refine xwB ?_ ?_); focus exact xaC) | ((with_reducible refine xwC ?_ ?_); focus exact xaC) | ((with_reducible refine xwD ?_ ?_); focus exact xaC) | ((with_reducible refine xwE ?_ ?_); focus exact xaC) | (with_reducible intro hc; (try simp only [capsP, and_true] at hc); (try exact xfC)) | ((fail_if_success (with_reducible first | refine xgon ?_ | intro _)); (conv => whnf); (fail_if_success (fail_if_success (with_reducible first | refine xstp ?_ | refine Both.mk ?_ ?_ | refine xgon ?_ | intro _)))))
    · refine FinK.mk ⟨[0], _, _, ⟨rfl, rfl⟩, ?_⟩; (repeat' first | refine And.intro ?_ ?_ | exact xeC | fail)
      all_goals (first | exact decide_eq_true (by unfold rngP; omega) | exact decide_eq_false (by unfold rngP; omega) | exact (decide_eq_true (by unfold rngP; omega)).symm | exact (decide_eq_false (by unfold rngP; omega)).symm | exact decide_eq_decide.2 (by unfold rngP; omega))
    refine xcal (σ := []) (nl := []) (cwithin (x.at') (0) (1099511627776)) ?_
    rintro v h' ⟨rfl, rfl⟩ hcaps
    refine rH15pA0 ?_
    repeat' (first | (fail_if_success (with_reducible refine xstp ?_)); first | ((with_reducible refine And.intro (fun (hb : _ = true) => ?_) (fun (hb : _ = false) => ?_)) <;> replace hb := xnC hb <;> (try first | exact xfC | exact bff hb (by assumption) | exact bff (by assumption) hb)) | (with_reducible refine Both.mk ?_ ?_) | ((with_reducible refine And.intro ?_ ?_); focus exact xoC) | ((with_reducible refine Or.inl ⟨?_, ?_, ?_⟩); (focus rfl); focus exact xaC) | ((with_reducible refine xwB ?_ ?_); focus exact xaC) | ((with_reducible refine xwC ?_ ?_); focus exact xaC) | ((with_reducible refine xwD ?_ ?_); focus exact xaC) | ((with_reducible refine xwE ?_ ?_); focus exact xaC) | (with_reducible intro hc; (try simp only [capsP, and_true] at hc); (try exact xfC)) | ((fail_if_success (with_reducible first | refine xgon ?_ | intro _)); (conv => whnf); (fail_if_success (fail_if_success (with_reducible first | refine xstp ?_ | refine Both.mk ?_ ?_ | refine xgon ?_ | intro _)))))
    refine FinK.mk ⟨[0], _, _, ⟨rfl, rfl⟩, ?_⟩; (repeat' first | refine And.intro ?_ ?_ | exact xeC | fail)
    all_goals (first | exact decide_eq_true (by unfold rngP; omega) | exact decide_eq_false (by unfold rngP; omega) | exact (decide_eq_true (by unfold rngP; omega)).symm | exact (decide_eq_false (by unfold rngP; omega)).symm | exact decide_eq_decide.2 (by unfold rngP; omega))
  · skip
    refine xcal (σ := []) (nl := []) (cwithin (x.fr) (0) (7)) ?_
    rintro v h' ⟨rfl, rfl⟩ hcaps
    refine rH15pA0 ?_
    repeat' (first | (fail_if_success (with_reducible refine xstp ?_)); first | ((with_reducible refine And.intro (fun (hb : _ = true) => ?_) (fun (hb : _ = false) => ?_)) <;> replace hb := xnC hb <;> (try first | exact xfC | exact bff hb (by assumption) | exact bff (by assumption) hb)) | (with_reducible refine Both.mk ?_ ?_) | ((with_reducible refine And.intro ?_ ?_); focus exact xoC) | ((with_reducible refine Or.inl ⟨?_, ?_, ?_⟩); (focus rfl); focus exact xaC) | ((with_reducible refine xwB ?_ ?_); focus exact xaC) | ((with_reducible refine xwC ?_ ?_); focus exact xaC) | ((with_reducible refine xwD ?_ ?_); focus exact xaC) | ((with_reducible refine xwE ?_ ?_); focus exact xaC) | (with_reducible intro hc; (try simp only [capsP, and_true] at hc); (try exact xfC)) | ((fail_if_success (with_reducible first | refine xgon ?_ | intro _)); (conv => whnf); (fail_if_success (fail_if_success (with_reducible first | refine xstp ?_ | refine Both.mk ?_ ?_ | refine xgon ?_ | intro _)))))
    · refine FinK.mk ⟨[0], _, _, ⟨rfl, rfl⟩, ?_⟩; (repeat' first | refine And.intro ?_ ?_ | exact xeC | fail)
      all_goals (first | exact decide_eq_true (by unfold rngP; omega) | exact decide_eq_false (by unfold rngP; omega) | exact (decide_eq_true (by unfold rngP; omega)).symm | exact (decide_eq_false (by unfold rngP; omega)).symm | exact decide_eq_decide.2 (by unfold rngP; omega))
    refine xcal (σ := []) (nl := []) (cwithin (x.to) (0) (7)) ?_
    rintro v h' ⟨rfl, rfl⟩ hcaps
    refine rH15pA0 ?_
    repeat' (first | (fail_if_success (with_reducible refine xstp ?_)); first | ((with_reducible refine And.intro (fun (hb : _ = true) => ?_) (fun (hb : _ = false) => ?_)) <;> replace hb := xnC hb <;> (try first | exact xfC | exact bff hb (by assumption) | exact bff (by assumption) hb)) | (with_reducible refine Both.mk ?_ ?_) | ((with_reducible refine And.intro ?_ ?_); focus exact xoC) | ((with_reducible refine Or.inl ⟨?_, ?_, ?_⟩); (focus rfl); focus exact xaC) | ((with_reducible refine xwB ?_ ?_); focus exact xaC) | ((with_reducible refine xwC ?_ ?_); focus exact xaC) | ((with_reducible refine xwD ?_ ?_); focus exact xaC) | ((with_reducible refine xwE ?_ ?_); focus exact xaC) | (with_reducible intro hc; (try simp only [capsP, and_true] at hc); (try exact xfC)) | ((fail_if_success (with_reducible first | refine xgon ?_ | intro _)); (conv => whnf); (fail_if_success (fail_if_success (with_reducible first | refine xstp ?_ | refine Both.mk ?_ ?_ | refine xgon ?_ | intro _)))))
    · refine FinK.mk ⟨[0], _, _, ⟨rfl, rfl⟩, ?_⟩; (repeat' first | refine And.intro ?_ ?_ | exact xeC | fail)
      all_goals (first | exact decide_eq_true (by unfold rngP; omega) | exact decide_eq_false (by unfold rngP; omega) | exact (decide_eq_true (by unfold rngP; omega)).symm | exact (decide_eq_false (by unfold rngP; omega)).symm | exact decide_eq_decide.2 (by unfold rngP; omega))
    refine xcal (σ := []) (nl := []) (cwithin (x.w) (1) (1073741824)) ?_
    rintro v h' ⟨rfl, rfl⟩ hcaps
    refine rH15pA0 ?_
    repeat' (first | (fail_if_success (with_reducible refine xstp ?_)); first | ((with_reducible refine And.intro (fun (hb : _ = true) => ?_) (fun (hb : _ = false) => ?_)) <;> replace hb := xnC hb <;> (try first | exact xfC | exact bff hb (by assumption) | exact bff (by assumption) hb)) | (with_reducible refine Both.mk ?_ ?_) | ((with_reducible refine And.intro ?_ ?_); focus exact xoC) | ((with_reducible refine Or.inl ⟨?_, ?_, ?_⟩); (focus rfl); focus exact xaC) | ((with_reducible refine xwB ?_ ?_); focus exact xaC) | ((with_reducible refine xwC ?_ ?_); focus exact xaC) | ((with_reducible refine xwD ?_ ?_); focus exact xaC) | ((with_reducible refine xwE ?_ ?_); focus exact xaC) | (with_reducible intro hc; (try simp only [capsP, and_true] at hc); (try exact xfC)) | ((fail_if_success (with_reducible first | refine xgon ?_ | intro _)); (conv => whnf); (fail_if_success (fail_if_success (with_reducible first | refine xstp ?_ | refine Both.mk ?_ ?_ | refine xgon ?_ | intro _)))))
    · refine FinK.mk ⟨[0], _, _, ⟨rfl, rfl⟩, ?_⟩; (repeat' first | refine And.intro ?_ ?_ | exact xeC | fail)
      all_goals (first | exact decide_eq_true (by unfold rngP; omega) | exact decide_eq_false (by unfold rngP; omega) | exact (decide_eq_true (by unfold rngP; omega)).symm | exact (decide_eq_false (by unfold rngP; omega)).symm | exact decide_eq_decide.2 (by unfold rngP; omega))
    refine xcal (σ := []) (nl := []) (cwithin (x.r) (1) (1073741824)) ?_
    rintro v h' ⟨rfl, rfl⟩ hcaps
    refine rH15pA0 ?_
    repeat' (first | (fail_if_success (with_reducible refine xstp ?_)); first | ((with_reducible refine And.intro (fun (hb : _ = true) => ?_) (fun (hb : _ = false) => ?_)) <;> replace hb := xnC hb <;> (try first | exact xfC | exact bff hb (by assumption) | exact bff (by assumption) hb)) | (with_reducible refine Both.mk ?_ ?_) | ((with_reducible refine And.intro ?_ ?_); focus exact xoC) | ((with_reducible refine Or.inl ⟨?_, ?_, ?_⟩); (focus rfl); focus exact xaC) | ((with_reducible refine xwB ?_ ?_); focus exact xaC) | ((with_reducible refine xwC ?_ ?_); focus exact xaC) | ((with_reducible refine xwD ?_ ?_); focus exact xaC) | ((with_reducible refine xwE ?_ ?_); focus exact xaC) | (with_reducible intro hc; (try simp only [capsP, and_true] at hc); (try exact xfC)) | ((fail_if_success (with_reducible first | refine xgon ?_ | intro _)); (conv => whnf); (fail_if_success (fail_if_success (with_reducible first | refine xstp ?_ | refine Both.mk ?_ ?_ | refine xgon ?_ | intro _)))))
    · refine FinK.mk ⟨[0], _, _, ⟨rfl, rfl⟩, ?_⟩; (repeat' first | refine And.intro ?_ ?_ | exact xeC | fail)
      all_goals (first | exact decide_eq_true (by unfold rngP; omega) | exact decide_eq_false (by unfold rngP; omega) | exact (decide_eq_true (by unfold rngP; omega)).symm | exact (decide_eq_false (by unfold rngP; omega)).symm | exact decide_eq_decide.2 (by unfold rngP; omega))
    refine xcal (σ := []) (nl := []) (cwithin (x.q) (0) (1)) ?_
    rintro v h' ⟨rfl, rfl⟩ hcaps
    refine rH15pA0 ?_
    repeat' (first | (fail_if_success (with_reducible refine xstp ?_)); first | ((with_reducible refine And.intro (fun (hb : _ = true) => ?_) (fun (hb : _ = false) => ?_)) <;> replace hb := xnC hb <;> (try first | exact xfC | exact bff hb (by assumption) | exact bff (by assumption) hb)) | (with_reducible refine Both.mk ?_ ?_) | ((with_reducible refine And.intro ?_ ?_); focus exact xoC) | ((with_reducible refine Or.inl ⟨?_, ?_, ?_⟩); (focus rfl); focus exact xaC) | ((with_reducible refine xwB ?_ ?_); focus exact xaC) | ((with_reducible refine xwC ?_ ?_); focus exact xaC) | ((with_reducible refine xwD ?_ ?_); focus exact xaC) | ((with_reducible refine xwE ?_ ?_); focus exact xaC) | (with_reducible intro hc; (try simp only [capsP, and_true] at hc); (try exact xfC)) | ((fail_if_success (with_reducible first | refine xgon ?_ | intro _)); (conv => whnf); (fail_if_success (fail_if_success (with_reducible first | refine xstp ?_ | refine Both.mk ?_ ?_ | refine xgon ?_ | intro _)))))
    · refine FinK.mk ⟨[0], _, _, ⟨rfl, rfl⟩, ?_⟩; (repeat' first | refine And.intro ?_ ?_ | exact xeC | fail)
      all_goals (first | exact decide_eq_true (by unfold rngP; omega) | exact decide_eq_false (by unfold rngP; omega) | exact (decide_eq_true (by unfold rngP; omega)).symm | exact (decide_eq_false (by unfold rngP; omega)).symm | exact decide_eq_decide.2 (by unfold rngP; omega))
    refine xcal (σ := []) (nl := []) (cwithin (x.f) (1) (1099511627776)) ?_
    rintro v h' ⟨rfl, rfl⟩ hcaps
    refine rH15pA0 ?_
    repeat' (first | (fail_if_success (with_reducible refine xstp ?_)); first | ((with_reducible refine And.intro (fun (hb : _ = true) => ?_) (fun (hb : _ = false) => ?_)) <;> replace hb := xnC hb <;> (try first | exact xfC | exact bff hb (by assumption) | exact bff (by assumption) hb)) | (with_reducible refine Both.mk ?_ ?_) | ((with_reducible refine And.intro ?_ ?_); focus exact xoC) | ((with_reducible refine Or.inl ⟨?_, ?_, ?_⟩); (focus rfl); focus exact xaC) | ((with_reducible refine xwB ?_ ?_); focus exact xaC) | ((with_reducible refine xwC ?_ ?_); focus exact xaC) | ((with_reducible refine xwD ?_ ?_); focus exact xaC) | ((with_reducible refine xwE ?_ ?_); focus exact xaC) | (with_reducible intro hc; (try simp only [capsP, and_true] at hc); (try exact xfC)) | ((fail_if_success (with_reducible first | refine xgon ?_ | intro _)); (conv => whnf); (fail_if_success (fail_if_success (with_reducible first | refine xstp ?_ | refine Both.mk ?_ ?_ | refine xgon ?_ | intro _)))))
    · refine FinK.mk ⟨[0], _, _, ⟨rfl, rfl⟩, ?_⟩; (repeat' first | refine And.intro ?_ ?_ | exact xeC | fail)
      all_goals (first | exact decide_eq_true (by unfold rngP; omega) | exact decide_eq_false (by unfold rngP; omega) | exact (decide_eq_true (by unfold rngP; omega)).symm | exact (decide_eq_false (by unfold rngP; omega)).symm | exact decide_eq_decide.2 (by unfold rngP; omega))
    refine xcal (σ := []) (nl := []) (cwithin (x.la) (0) (1099511627776)) ?_
    rintro v h' ⟨rfl, rfl⟩ hcaps
    refine rH15pA0 ?_
    repeat' (first | (fail_if_success (with_reducible refine xstp ?_)); first | ((with_reducible refine And.intro (fun (hb : _ = true) => ?_) (fun (hb : _ = false) => ?_)) <;> replace hb := xnC hb <;> (try first | exact xfC | exact bff hb (by assumption) | exact bff (by assumption) hb)) | (with_reducible refine Both.mk ?_ ?_) | ((with_reducible refine And.intro ?_ ?_); focus exact xoC) | ((with_reducible refine Or.inl ⟨?_, ?_, ?_⟩); (focus rfl); focus exact xaC) | ((with_reducible refine xwB ?_ ?_); focus exact xaC) | ((with_reducible refine xwC ?_ ?_); focus exact xaC) | ((with_reducible refine xwD ?_ ?_); focus exact xaC) | ((with_reducible refine xwE ?_ ?_); focus exact xaC) | (with_reducible intro hc; (try simp only [capsP, and_true] at hc); (try exact xfC)) | ((fail_if_success (with_reducible first | refine xgon ?_ | intro _)); (conv => whnf); (fail_if_success (fail_if_success (with_reducible first | refine xstp ?_ | refine Both.mk ?_ ?_ | refine xgon ?_ | intro _)))))
    · refine FinK.mk ⟨[0], _, _, ⟨rfl, rfl⟩, ?_⟩; (repeat' first | refine And.intro ?_ ?_ | exact xeC | fail)
      all_goals (first | exact decide_eq_true (by unfold rngP; omega) | exact decide_eq_false (by unfold rngP; omega) | exact (decide_eq_true (by unfold rngP; omega)).symm | exact (decide_eq_false (by unfold rngP; omega)).symm | exact decide_eq_decide.2 (by unfold rngP; omega))
    refine xcal (σ := []) (nl := []) (cwithin (x.at') (0) (1099511627776)) ?_
    rintro v h' ⟨rfl, rfl⟩ hcaps
    refine rH15pA0 ?_
    repeat' (first | (fail_if_success (with_reducible refine xstp ?_)); first | ((with_reducible refine And.intro (fun (hb : _ = true) => ?_) (fun (hb : _ = false) => ?_)) <;> replace hb := xnC hb <;> (try first | exact xfC | exact bff hb (by assumption) | exact bff (by assumption) hb)) | (with_reducible refine Both.mk ?_ ?_) | ((with_reducible refine And.intro ?_ ?_); focus exact xoC) | ((with_reducible refine Or.inl ⟨?_, ?_, ?_⟩); (focus rfl); focus exact xaC) | ((with_reducible refine xwB ?_ ?_); focus exact xaC) | ((with_reducible refine xwC ?_ ?_); focus exact xaC) | ((with_reducible refine xwD ?_ ?_); focus exact xaC) | ((with_reducible refine xwE ?_ ?_); focus exact xaC) | (with_reducible intro hc; (try simp only [capsP, and_true] at hc); (try exact xfC)) | ((fail_if_success (with_reducible first | refine xgon ?_ | intro _)); (conv => whnf); (fail_if_success (fail_if_success (with_reducible first | refine xstp ?_ | refine Both.mk ?_ ?_ | refine xgon ?_ | intro _)))))
    refine FinK.mk ⟨[0], _, _, ⟨rfl, rfl⟩, ?_⟩; (repeat' first | refine And.intro ?_ ?_ | exact xeC | fail)
    all_goals (first | exact decide_eq_true (by unfold rngP; omega) | exact decide_eq_false (by unfold rngP; omega) | exact (decide_eq_true (by unfold rngP; omega)).symm | exact (decide_eq_false (by unfold rngP; omega)).symm | exact decide_eq_decide.2 (by unfold rngP; omega))
  · skip
    refine xcal (σ := []) (nl := []) (cwithin (x.fr) (0) (7)) ?_
    rintro v h' ⟨rfl, rfl⟩ hcaps
    refine rH15pA0 ?_
    repeat' (first | (fail_if_success (with_reducible refine xstp ?_)); first | ((with_reducible refine And.intro (fun (hb : _ = true) => ?_) (fun (hb : _ = false) => ?_)) <;> replace hb := xnC hb <;> (try first | exact xfC | exact bff hb (by assumption) | exact bff (by assumption) hb)) | (with_reducible refine Both.mk ?_ ?_) | ((with_reducible refine And.intro ?_ ?_); focus exact xoC) | ((with_reducible refine Or.inl ⟨?_, ?_, ?_⟩); (focus rfl); focus exact xaC) | ((with_reducible refine xwB ?_ ?_); focus exact xaC) | ((with_reducible refine xwC ?_ ?_); focus exact xaC) | ((with_reducible refine xwD ?_ ?_); focus exact xaC) | ((with_reducible refine xwE ?_ ?_); focus exact xaC) | (with_reducible intro hc; (try simp only [capsP, and_true] at hc); (try exact xfC)) | ((fail_if_success (with_reducible first | refine xgon ?_ | intro _)); (conv => whnf); (fail_if_success (fail_if_success (with_reducible first | refine xstp ?_ | refine Both.mk ?_ ?_ | refine xgon ?_ | intro _)))))
    · refine FinK.mk ⟨[0], _, _, ⟨rfl, rfl⟩, ?_⟩; (repeat' first | refine And.intro ?_ ?_ | exact xeC | fail)
      all_goals (first | exact decide_eq_true (by unfold rngP; omega) | exact decide_eq_false (by unfold rngP; omega) | exact (decide_eq_true (by unfold rngP; omega)).symm | exact (decide_eq_false (by unfold rngP; omega)).symm | exact decide_eq_decide.2 (by unfold rngP; omega))
    refine xcal (σ := []) (nl := []) (cwithin (x.to) (0) (7)) ?_
    rintro v h' ⟨rfl, rfl⟩ hcaps
    refine rH15pA0 ?_
    repeat' (first | (fail_if_success (with_reducible refine xstp ?_)); first | ((with_reducible refine And.intro (fun (hb : _ = true) => ?_) (fun (hb : _ = false) => ?_)) <;> replace hb := xnC hb <;> (try first | exact xfC | exact bff hb (by assumption) | exact bff (by assumption) hb)) | (with_reducible refine Both.mk ?_ ?_) | ((with_reducible refine And.intro ?_ ?_); focus exact xoC) | ((with_reducible refine Or.inl ⟨?_, ?_, ?_⟩); (focus rfl); focus exact xaC) | ((with_reducible refine xwB ?_ ?_); focus exact xaC) | ((with_reducible refine xwC ?_ ?_); focus exact xaC) | ((with_reducible refine xwD ?_ ?_); focus exact xaC) | ((with_reducible refine xwE ?_ ?_); focus exact xaC) | (with_reducible intro hc; (try simp only [capsP, and_true] at hc); (try exact xfC)) | ((fail_if_success (with_reducible first | refine xgon ?_ | intro _)); (conv => whnf); (fail_if_success (fail_if_success (with_reducible first | refine xstp ?_ | refine Both.mk ?_ ?_ | refine xgon ?_ | intro _)))))
    · refine FinK.mk ⟨[0], _, _, ⟨rfl, rfl⟩, ?_⟩; (repeat' first | refine And.intro ?_ ?_ | exact xeC | fail)
      all_goals (first | exact decide_eq_true (by unfold rngP; omega) | exact decide_eq_false (by unfold rngP; omega) | exact (decide_eq_true (by unfold rngP; omega)).symm | exact (decide_eq_false (by unfold rngP; omega)).symm | exact decide_eq_decide.2 (by unfold rngP; omega))
    refine xcal (σ := []) (nl := []) (cwithin (x.w) (1) (1073741824)) ?_
    rintro v h' ⟨rfl, rfl⟩ hcaps
    refine rH15pA0 ?_
    repeat' (first | (fail_if_success (with_reducible refine xstp ?_)); first | ((with_reducible refine And.intro (fun (hb : _ = true) => ?_) (fun (hb : _ = false) => ?_)) <;> replace hb := xnC hb <;> (try first | exact xfC | exact bff hb (by assumption) | exact bff (by assumption) hb)) | (with_reducible refine Both.mk ?_ ?_) | ((with_reducible refine And.intro ?_ ?_); focus exact xoC) | ((with_reducible refine Or.inl ⟨?_, ?_, ?_⟩); (focus rfl); focus exact xaC) | ((with_reducible refine xwB ?_ ?_); focus exact xaC) | ((with_reducible refine xwC ?_ ?_); focus exact xaC) | ((with_reducible refine xwD ?_ ?_); focus exact xaC) | ((with_reducible refine xwE ?_ ?_); focus exact xaC) | (with_reducible intro hc; (try simp only [capsP, and_true] at hc); (try exact xfC)) | ((fail_if_success (with_reducible first | refine xgon ?_ | intro _)); (conv => whnf); (fail_if_success (fail_if_success (with_reducible first | refine xstp ?_ | refine Both.mk ?_ ?_ | refine xgon ?_ | intro _)))))
    · refine FinK.mk ⟨[0], _, _, ⟨rfl, rfl⟩, ?_⟩; (repeat' first | refine And.intro ?_ ?_ | exact xeC | fail)
      all_goals (first | exact decide_eq_true (by unfold rngP; omega) | exact decide_eq_false (by unfold rngP; omega) | exact (decide_eq_true (by unfold rngP; omega)).symm | exact (decide_eq_false (by unfold rngP; omega)).symm | exact decide_eq_decide.2 (by unfold rngP; omega))
    refine xcal (σ := []) (nl := []) (cwithin (x.r) (1) (1073741824)) ?_
    rintro v h' ⟨rfl, rfl⟩ hcaps
    refine rH15pA0 ?_
    repeat' (first | (fail_if_success (with_reducible refine xstp ?_)); first | ((with_reducible refine And.intro (fun (hb : _ = true) => ?_) (fun (hb : _ = false) => ?_)) <;> replace hb := xnC hb <;> (try first | exact xfC | exact bff hb (by assumption) | exact bff (by assumption) hb)) | (with_reducible refine Both.mk ?_ ?_) | ((with_reducible refine And.intro ?_ ?_); focus exact xoC) | ((with_reducible refine Or.inl ⟨?_, ?_, ?_⟩); (focus rfl); focus exact xaC) | ((with_reducible refine xwB ?_ ?_); focus exact xaC) | ((with_reducible refine xwC ?_ ?_); focus exact xaC) | ((with_reducible refine xwD ?_ ?_); focus exact xaC) | ((with_reducible refine xwE ?_ ?_); focus exact xaC) | (with_reducible intro hc; (try simp only [capsP, and_true] at hc); (try exact xfC)) | ((fail_if_success (with_reducible first | refine xgon ?_ | intro _)); (conv => whnf); (fail_if_success (fail_if_success (with_reducible first | refine xstp ?_ | refine Both.mk ?_ ?_ | refine xgon ?_ | intro _)))))
    · refine FinK.mk ⟨[0], _, _, ⟨rfl, rfl⟩, ?_⟩; (repeat' first | refine And.intro ?_ ?_ | exact xeC | fail)
      all_goals (first | exact decide_eq_true (by unfold rngP; omega) | exact decide_eq_false (by unfold rngP; omega) | exact (decide_eq_true (by unfold rngP; omega)).symm | exact (decide_eq_false (by unfold rngP; omega)).symm | exact decide_eq_decide.2 (by unfold rngP; omega))
    · skip
      refine xcal (σ := []) (nl := []) (cwithin (x.q) (1) (1099511627776)) ?_
      rintro v h' ⟨rfl, rfl⟩ hcaps
      refine rH15pA0 ?_
      repeat' (first | (fail_if_success (with_reducible refine xstp ?_)); first | ((with_reducible refine And.intro (fun (hb : _ = true) => ?_) (fun (hb : _ = false) => ?_)) <;> replace hb := xnC hb <;> (try first | exact xfC | exact bff hb (by assumption) | exact bff (by assumption) hb)) | (with_reducible refine Both.mk ?_ ?_) | ((with_reducible refine And.intro ?_ ?_); focus exact xoC) | ((with_reducible refine Or.inl ⟨?_, ?_, ?_⟩); (focus rfl); focus exact xaC) | ((with_reducible refine xwB ?_ ?_); focus exact xaC) | ((with_reducible refine xwC ?_ ?_); focus exact xaC) | ((with_reducible refine xwD ?_ ?_); focus exact xaC) | ((with_reducible refine xwE ?_ ?_); focus exact xaC) | (with_reducible intro hc; (try simp only [capsP, and_true] at hc); (try exact xfC)) | ((fail_if_success (with_reducible first | refine xgon ?_ | intro _)); (conv => whnf); (fail_if_success (fail_if_success (with_reducible first | refine xstp ?_ | refine Both.mk ?_ ?_ | refine xgon ?_ | intro _)))))
      · refine FinK.mk ⟨[0], _, _, ⟨rfl, rfl⟩, ?_⟩; (repeat' first | refine And.intro ?_ ?_ | exact xeC | fail)
        all_goals (first | exact decide_eq_true (by unfold rngP; omega) | exact decide_eq_false (by unfold rngP; omega) | exact (decide_eq_true (by unfold rngP; omega)).symm | exact (decide_eq_false (by unfold rngP; omega)).symm | exact decide_eq_decide.2 (by unfold rngP; omega))
      refine xcal (σ := []) (nl := []) (cwithin (x.at') (0) (1099511627776)) ?_
      rintro v h' ⟨rfl, rfl⟩ hcaps
      refine rH15pA0 ?_
      repeat' (first | (fail_if_success (with_reducible refine xstp ?_)); first | ((with_reducible refine And.intro (fun (hb : _ = true) => ?_) (fun (hb : _ = false) => ?_)) <;> replace hb := xnC hb <;> (try first | exact xfC | exact bff hb (by assumption) | exact bff (by assumption) hb)) | (with_reducible refine Both.mk ?_ ?_) | ((with_reducible refine And.intro ?_ ?_); focus exact xoC) | ((with_reducible refine Or.inl ⟨?_, ?_, ?_⟩); (focus rfl); focus exact xaC) | ((with_reducible refine xwB ?_ ?_); focus exact xaC) | ((with_reducible refine xwC ?_ ?_); focus exact xaC) | ((with_reducible refine xwD ?_ ?_); focus exact xaC) | ((with_reducible refine xwE ?_ ?_); focus exact xaC) | (with_reducible intro hc; (try simp only [capsP, and_true] at hc); (try exact xfC)) | ((fail_if_success (with_reducible first | refine xgon ?_ | intro _)); (conv => whnf); (fail_if_success (fail_if_success (with_reducible first | refine xstp ?_ | refine Both.mk ?_ ?_ | refine xgon ?_ | intro _)))))
      refine FinK.mk ⟨[0], _, _, ⟨rfl, rfl⟩, ?_⟩; (repeat' first | refine And.intro ?_ ?_ | exact xeC | fail)
      all_goals (first | exact decide_eq_true (by unfold rngP; omega) | exact decide_eq_false (by unfold rngP; omega) | exact (decide_eq_true (by unfold rngP; omega)).symm | exact (decide_eq_false (by unfold rngP; omega)).symm | exact decide_eq_decide.2 (by unfold rngP; omega))
    · skip
      refine xcal (σ := []) (nl := []) (cwithin (x.f) (1) (1099511627776)) ?_
      rintro v h' ⟨rfl, rfl⟩ hcaps
      refine rH15pA0 ?_
      repeat' (first | (fail_if_success (with_reducible refine xstp ?_)); first | ((with_reducible refine And.intro (fun (hb : _ = true) => ?_) (fun (hb : _ = false) => ?_)) <;> replace hb := xnC hb <;> (try first | exact xfC | exact bff hb (by assumption) | exact bff (by assumption) hb)) | (with_reducible refine Both.mk ?_ ?_) | ((with_reducible refine And.intro ?_ ?_); focus exact xoC) | ((with_reducible refine Or.inl ⟨?_, ?_, ?_⟩); (focus rfl); focus exact xaC) | ((with_reducible refine xwB ?_ ?_); focus exact xaC) | ((with_reducible refine xwC ?_ ?_); focus exact xaC) | ((with_reducible refine xwD ?_ ?_); focus exact xaC) | ((with_reducible refine xwE ?_ ?_); focus exact xaC) | (with_reducible intro hc; (try simp only [capsP, and_true] at hc); (try exact xfC)) | ((fail_if_success (with_reducible first | refine xgon ?_ | intro _)); (conv => whnf); (fail_if_success (fail_if_success (with_reducible first | refine xstp ?_ | refine Both.mk ?_ ?_ | refine xgon ?_ | intro _)))))
      · refine FinK.mk ⟨[0], _, _, ⟨rfl, rfl⟩, ?_⟩; (repeat' first | refine And.intro ?_ ?_ | exact xeC | fail)
        all_goals (first | exact decide_eq_true (by unfold rngP; omega) | exact decide_eq_false (by unfold rngP; omega) | exact (decide_eq_true (by unfold rngP; omega)).symm | exact (decide_eq_false (by unfold rngP; omega)).symm | exact decide_eq_decide.2 (by unfold rngP; omega))
      refine xcal (σ := []) (nl := []) (cwithin (x.la) (0) (1099511627776)) ?_
      rintro v h' ⟨rfl, rfl⟩ hcaps
      refine rH15pA0 ?_
      repeat' (first | (fail_if_success (with_reducible refine xstp ?_)); first | ((with_reducible refine And.intro (fun (hb : _ = true) => ?_) (fun (hb : _ = false) => ?_)) <;> replace hb := xnC hb <;> (try first | exact xfC | exact bff hb (by assumption) | exact bff (by assumption) hb)) | (with_reducible refine Both.mk ?_ ?_) | ((with_reducible refine And.intro ?_ ?_); focus exact xoC) | ((with_reducible refine Or.inl ⟨?_, ?_, ?_⟩); (focus rfl); focus exact xaC) | ((with_reducible refine xwB ?_ ?_); focus exact xaC) | ((with_reducible refine xwC ?_ ?_); focus exact xaC) | ((with_reducible refine xwD ?_ ?_); focus exact xaC) | ((with_reducible refine xwE ?_ ?_); focus exact xaC) | (with_reducible intro hc; (try simp only [capsP, and_true] at hc); (try exact xfC)) | ((fail_if_success (with_reducible first | refine xgon ?_ | intro _)); (conv => whnf); (fail_if_success (fail_if_success (with_reducible first | refine xstp ?_ | refine Both.mk ?_ ?_ | refine xgon ?_ | intro _)))))
      · refine FinK.mk ⟨[0], _, _, ⟨rfl, rfl⟩, ?_⟩; (repeat' first | refine And.intro ?_ ?_ | exact xeC | fail)
        all_goals (first | exact decide_eq_true (by unfold rngP; omega) | exact decide_eq_false (by unfold rngP; omega) | exact (decide_eq_true (by unfold rngP; omega)).symm | exact (decide_eq_false (by unfold rngP; omega)).symm | exact decide_eq_decide.2 (by unfold rngP; omega))
      refine xcal (σ := []) (nl := []) (cwithin (x.at') (0) (1099511627776)) ?_
      rintro v h' ⟨rfl, rfl⟩ hcaps
      refine rH15pA0 ?_
      repeat' (first | (fail_if_success (with_reducible refine xstp ?_)); first | ((with_reducible refine And.intro (fun (hb : _ = true) => ?_) (fun (hb : _ = false) => ?_)) <;> replace hb := xnC hb <;> (try first | exact xfC | exact bff hb (by assumption) | exact bff (by assumption) hb)) | (with_reducible refine Both.mk ?_ ?_) | ((with_reducible refine And.intro ?_ ?_); focus exact xoC) | ((with_reducible refine Or.inl ⟨?_, ?_, ?_⟩); (focus rfl); focus exact xaC) | ((with_reducible refine xwB ?_ ?_); focus exact xaC) | ((with_reducible refine xwC ?_ ?_); focus exact xaC) | ((with_reducible refine xwD ?_ ?_); focus exact xaC) | ((with_reducible refine xwE ?_ ?_); focus exact xaC) | (with_reducible intro hc; (try simp only [capsP, and_true] at hc); (try exact xfC)) | ((fail_if_success (with_reducible first | refine xgon ?_ | intro _)); (conv => whnf); (fail_if_success (fail_if_success (with_reducible first | refine xstp ?_ | refine Both.mk ?_ ?_ | refine xgon ?_ | intro _)))))
      refine FinK.mk ⟨[0], _, _, ⟨rfl, rfl⟩, ?_⟩; (repeat' first | refine And.intro ?_ ?_ | exact xeC | fail)
      all_goals (first | exact decide_eq_true (by unfold rngP; omega) | exact decide_eq_false (by unfold rngP; omega) | exact (decide_eq_true (by unfold rngP; omega)).symm | exact (decide_eq_false (by unfold rngP; omega)).symm | exact decide_eq_decide.2 (by unfold rngP; omega))

/-- What a kind does not use is not zero. -/
def unuP (x : Pk) : Prop := ((x.k = 2 ∨ x.k = 3) ∧ x.q ≠ 0) ∨ ((x.k = 1 ∨ x.k = 5) ∧ (x.f ≠ 0 ∨ x.la ≠ 0)) ∨ (x.k ≠ 3 ∧ 0 < x.m.length) ∨ ((x.k = 2 ∨ x.k = 3 ∨ x.k = 4) ∧ x.p ≠ [])
instance (x : Pk) : Decidable (unuP x) := by unfold unuP; infer_instance
/-- A missing number is out of range, or not above the one before. -/
def badA (x : Pk) (i : Nat) : Prop := x.m.getD i default < x.f ∨ x.la < x.m.getD i default ∨ (0 < i ∧ x.m.getD i default ≤ x.m.getD (i - 1) default)
instance (x : Pk) (i : Nat) : Decidable (badA x i) := by unfold badA; infer_instance
def badP (x : Pk) : Prop := ∃ i, i < x.m.length ∧ badA x i
instance (x : Pk) : Decidable (badP x) := by unfold badP; infer_instance
def chk (x : Pk) : Nat := if ¬ rngP x then 4 else if 2000 < x.p.length ∨ 32 < x.m.length then 3 else if unuP x then 2 else if badP x then 2 else 0

set_option maxRecDepth 10000 in
theorem cCheck (x : Pk) (wa : Bool) (c : Nat) (hp : x.p.length ≤ 1000000) (hm : x.m.length ≤ 1000000) :
    Ctr Try.prog 22 [.a (encP (.sl 0 0 1 0 x.m.length c) x)] [.one (ints wa x.m c)] fun v h => v = .c (.i .i64 (chk x : Nat)) ∧ h = [.one (ints wa x.m c)] := by
  refine Ctr.mk' tbv mixed Try.func22 rfl rfl rfl (fun _ _ => by kernel_rfl) (by kernel_rfl) (by rfl) (by rfl) (by (repeat' first | refine And.intro ?_ ?_ | exact xeC | fail)) ?_
  repeat' (first | (fail_if_success (with_reducible refine xstp ?_)); first | ((with_reducible refine And.intro (fun (hb : _ = true) => ?_) (fun (hb : _ = false) => ?_)) <;> replace hb := xnC hb <;> (try first | exact xfC | exact bff hb (by assumption) | exact bff (by assumption) hb)) | (with_reducible refine Both.mk ?_ ?_) | ((with_reducible refine And.intro ?_ ?_); focus exact xoC) | ((with_reducible refine Or.inl ⟨?_, ?_, ?_⟩); (focus rfl); focus exact xaC) | ((with_reducible refine xwB ?_ ?_); focus exact xaC) | ((with_reducible refine xwC ?_ ?_); focus exact xaC) | ((with_reducible refine xwD ?_ ?_); focus exact xaC) | ((with_reducible refine xwE ?_ ?_); focus exact xaC) | (with_reducible intro hc; (try simp only [capsP, and_true] at hc); (try exact xfC)) | ((fail_if_success (with_reducible first | refine xgon ?_ | intro _)); (conv => whnf); (fail_if_success (fail_if_success (with_reducible first | refine xstp ?_ | refine Both.mk ?_ ?_ | refine xgon ?_ | intro _)))))
  refine xcal (σ := []) (nl := []) (cuses x.k) ?_
  rintro v h' ⟨rfl, rfl⟩ hcaps
  refine rH15pA0 ?_
  repeat' (first | (fail_if_success (with_reducible refine xstp ?_)); first | ((with_reducible refine And.intro (fun (hb : _ = true) => ?_) (fun (hb : _ = false) => ?_)) <;> replace hb := xnC hb <;> (try first | exact xfC | exact bff hb (by assumption) | exact bff (by assumption) hb)) | (with_reducible refine Both.mk ?_ ?_) | ((with_reducible refine And.intro ?_ ?_); focus exact xoC) | ((with_reducible refine Or.inl ⟨?_, ?_, ?_⟩); (focus rfl); focus exact xaC) | ((with_reducible refine xwB ?_ ?_); focus exact xaC) | ((with_reducible refine xwC ?_ ?_); focus exact xaC) | ((with_reducible refine xwD ?_ ?_); focus exact xaC) | ((with_reducible refine xwE ?_ ?_); focus exact xaC) | (with_reducible intro hc; (try simp only [capsP, and_true] at hc); (try exact xfC)) | ((fail_if_success (with_reducible first | refine xgon ?_ | intro _)); (conv => whnf); (fail_if_success (fail_if_success (with_reducible first | refine xstp ?_ | refine Both.mk ?_ ?_ | refine xgon ?_ | intro _)))))
  · have hr : ¬ rngP x := fun h => hb h.1
    rw [show chk x = 4 from if_pos hr]
    refine FinK.mk ⟨[0], _, _, ⟨rfl, rfl⟩, ?_⟩; (repeat' first | refine And.intro ?_ ?_ | exact xeC | fail)
  have hz : (mkS x.p).size = x.p.length := rfl
  refine xcal (σ := [.name 0]) (nl := []) (cinRange x x.m.length c hb) ?_
  rintro v h' ⟨rfl, rfl⟩ hcaps
  refine rH15pA0 ?_
  repeat' (first | (fail_if_success (with_reducible refine xstp ?_)); first | ((with_reducible refine And.intro (fun (hb : _ = true) => ?_) (fun (hb : _ = false) => ?_)) <;> replace hb := xnC hb <;> (try first | exact xfC | exact bff hb (by assumption) | exact bff (by assumption) hb)) | (with_reducible refine Both.mk ?_ ?_) | ((with_reducible refine And.intro ?_ ?_); focus exact xoC) | ((with_reducible refine Or.inl ⟨?_, ?_, ?_⟩); (focus rfl); focus exact xaC) | ((with_reducible refine xwB ?_ ?_); focus exact xaC) | ((with_reducible refine xwC ?_ ?_); focus exact xaC) | ((with_reducible refine xwD ?_ ?_); focus exact xaC) | ((with_reducible refine xwE ?_ ?_); focus exact xaC) | (with_reducible intro hc; (try simp only [capsP, and_true] at hc); (try exact xfC)) | ((fail_if_success (with_reducible first | refine xgon ?_ | intro _)); (conv => whnf); (fail_if_success (fail_if_success (with_reducible first | refine xstp ?_ | refine Both.mk ?_ ?_ | refine xgon ?_ | intro _)))))
  · rw [show chk x = 4 from if_pos hb]
    refine FinK.mk ⟨[0], _, _, ⟨rfl, rfl⟩, ?_⟩; (repeat' first | refine And.intro ?_ ?_ | exact xeC | fail)
  · have hr : rngP x := by assumption
    rw [show chk x = 3 by unfold chk; rw [if_neg (by simpa using hr), if_pos (by omega)]]
    refine FinK.mk ⟨[0], _, _, ⟨rfl, rfl⟩, ?_⟩; (repeat' first | refine And.intro ?_ ?_ | exact xeC | fail)
  · have hr : rngP x := by assumption
    rw [show chk x = 3 by unfold chk; rw [if_neg (by simpa using hr), if_pos (by omega)]]
    refine FinK.mk ⟨[0], _, _, ⟨rfl, rfl⟩, ?_⟩; (repeat' first | refine And.intro ?_ ?_ | exact xeC | fail)
  all_goals try (
    have hr : rngP x := by assumption
    have hun : unuP x := by
      unfold unuP
      first
        | omega
        | (have hpn : x.p ≠ [] := fun h => by simp_all [mkS]
           simp only [hpn, ne_eq, not_false_eq_true, and_true]
           omega)
    rw [show chk x = 2 by unfold chk; rw [if_neg (by simpa using hr), if_neg (by omega), if_pos hun]]
    refine FinK.mk ⟨[0], _, _, ⟨rfl, rfl⟩, ?_⟩; (repeat' first | refine And.intro ?_ ?_ | exact xeC | fail))
  · skip
    have hr : rngP x := by assumption
    have hp0 : x.p = [] ∨ (x.k = 1 ∨ x.k = 5) := by
      first
        | (right; assumption)
        | (left; exact mkS_inj.1 (by assumption))
    have hun : ¬ unuP x := by
      unfold unuP
      rcases hp0 with h | h
      · simp only [h, ne_eq, not_true_eq_false, and_false, or_false]
        omega
      · omega
    refine LoopK.mk' {i : Nat // i ≤ x.m.length ∧ ∀ j, j < i → ¬ badA x j}
      (fun ⟨i, _⟩ => ⟨[(1, .c (.p 1 0 0)), (73, .c (.sl 0 0 1 0 x.m.length c)), (74, .c (.i .i64 x.m.length)), (75, .c (.i .i64 (i : Nat)))], [.one (ints wa x.m c), .one (.cells true (encP (.sl 0 0 1 0 x.m.length c) x))]⟩) (fun k => x.m.length - k.1)
      ⟨⟨0, Nat.zero_le _, by intro j h; omega⟩, [0, 1], ?_⟩ ?_
    · (repeat' first | refine And.intro ?_ ?_ | exact xeC | fail)
    rintro ⟨i, hi, hno⟩
    repeat' (first | (fail_if_success (with_reducible refine xstp ?_)); first | ((with_reducible refine And.intro (fun (hb : _ = true) => ?_) (fun (hb : _ = false) => ?_)) <;> replace hb := xnC hb <;> (try first | exact xfC | exact bff hb (by assumption) | exact bff (by assumption) hb)) | (with_reducible refine Both.mk ?_ ?_) | ((with_reducible refine And.intro ?_ ?_); focus exact xoC) | ((with_reducible refine Or.inl ⟨?_, ?_, ?_⟩); (focus rfl); focus exact xaC) | ((with_reducible refine xwB ?_ ?_); focus exact xaC) | ((with_reducible refine xwC ?_ ?_); focus exact xaC) | ((with_reducible refine xwD ?_ ?_); focus exact xaC) | ((with_reducible refine xwE ?_ ?_); focus exact xaC) | (with_reducible intro hc; (try simp only [capsP, and_true] at hc); (try exact xfC)) | ((fail_if_success (with_reducible first | refine xgon ?_ | intro _)); (conv => whnf); (fail_if_success (fail_if_success (with_reducible first | refine xstp ?_ | refine Both.mk ?_ ?_ | refine xgon ?_ | intro _)))))
    all_goals try simp only [show ((i : Int) - 1).toNat = i - 1 by omega] at *
    all_goals first
      | (have hbad : badA x i := by unfold badA; omega
         have hil : i < x.m.length := by omega
         rw [show chk x = 2 by unfold chk; rw [if_neg (by simpa using hr), if_neg (by omega), if_neg hun, if_pos ⟨i, hil, hbad⟩]]
         refine FinK.mk ⟨[0], _, _, ⟨rfl, rfl⟩, ?_⟩; (repeat' first | refine And.intro ?_ ?_ | exact xeC | fail)
         done)
      | (have hil : i < x.m.length := by omega
         have hbad : ¬ badA x i := by unfold badA; omega
         refine ⟨⟨i + 1, by omega, fun j hj => by
           rcases (by omega : j < i ∨ j = i) with h | rfl
           · exact hno j h
           · exact hbad⟩, [0, 1], by simp only; omega, ?_⟩
         (repeat' first | refine And.intro ?_ ?_ | exact xeC | fail)
         done)
      | (have hil : i = x.m.length := by omega
         rw [show chk x = 0 by unfold chk; rw [if_neg (by simpa using hr), if_neg (by omega), if_neg hun, if_neg (fun ⟨j, h1, h2⟩ => hno j (by omega) h2)]]
         refine FinK.mk ⟨[0], _, _, ⟨rfl, rfl⟩, ?_⟩; (repeat' first | refine And.intro ?_ ?_ | exact xeC | fail)
         done)
  · skip
    have hr : rngP x := by assumption
    have hp0 : x.p = [] ∨ (x.k = 1 ∨ x.k = 5) := by
      first
        | (right; assumption)
        | (left; exact mkS_inj.1 (by assumption))
    have hun : ¬ unuP x := by
      unfold unuP
      rcases hp0 with h | h
      · simp only [h, ne_eq, not_true_eq_false, and_false, or_false]
        omega
      · omega
    refine LoopK.mk' {i : Nat // i ≤ x.m.length ∧ ∀ j, j < i → ¬ badA x j}
      (fun ⟨i, _⟩ => ⟨[(1, .c (.p 1 0 0)), (73, .c (.sl 0 0 1 0 x.m.length c)), (74, .c (.i .i64 x.m.length)), (75, .c (.i .i64 (i : Nat)))], [.one (ints wa x.m c), .one (.cells true (encP (.sl 0 0 1 0 x.m.length c) x))]⟩) (fun k => x.m.length - k.1)
      ⟨⟨0, Nat.zero_le _, by intro j h; omega⟩, [0, 1], ?_⟩ ?_
    · (repeat' first | refine And.intro ?_ ?_ | exact xeC | fail)
    rintro ⟨i, hi, hno⟩
    repeat' (first | (fail_if_success (with_reducible refine xstp ?_)); first | ((with_reducible refine And.intro (fun (hb : _ = true) => ?_) (fun (hb : _ = false) => ?_)) <;> replace hb := xnC hb <;> (try first | exact xfC | exact bff hb (by assumption) | exact bff (by assumption) hb)) | (with_reducible refine Both.mk ?_ ?_) | ((with_reducible refine And.intro ?_ ?_); focus exact xoC) | ((with_reducible refine Or.inl ⟨?_, ?_, ?_⟩); (focus rfl); focus exact xaC) | ((with_reducible refine xwB ?_ ?_); focus exact xaC) | ((with_reducible refine xwC ?_ ?_); focus exact xaC) | ((with_reducible refine xwD ?_ ?_); focus exact xaC) | ((with_reducible refine xwE ?_ ?_); focus exact xaC) | (with_reducible intro hc; (try simp only [capsP, and_true] at hc); (try exact xfC)) | ((fail_if_success (with_reducible first | refine xgon ?_ | intro _)); (conv => whnf); (fail_if_success (fail_if_success (with_reducible first | refine xstp ?_ | refine Both.mk ?_ ?_ | refine xgon ?_ | intro _)))))
    all_goals try simp only [show ((i : Int) - 1).toNat = i - 1 by omega] at *
    all_goals first
      | (have hbad : badA x i := by unfold badA; omega
         have hil : i < x.m.length := by omega
         rw [show chk x = 2 by unfold chk; rw [if_neg (by simpa using hr), if_neg (by omega), if_neg hun, if_pos ⟨i, hil, hbad⟩]]
         refine FinK.mk ⟨[0], _, _, ⟨rfl, rfl⟩, ?_⟩; (repeat' first | refine And.intro ?_ ?_ | exact xeC | fail)
         done)
      | (have hil : i < x.m.length := by omega
         have hbad : ¬ badA x i := by unfold badA; omega
         refine ⟨⟨i + 1, by omega, fun j hj => by
           rcases (by omega : j < i ∨ j = i) with h | rfl
           · exact hno j h
           · exact hbad⟩, [0, 1], by simp only; omega, ?_⟩
         (repeat' first | refine And.intro ?_ ?_ | exact xeC | fail)
         done)
      | (have hil : i = x.m.length := by omega
         rw [show chk x = 0 by unfold chk; rw [if_neg (by simpa using hr), if_neg (by omega), if_neg hun, if_neg (fun ⟨j, h1, h2⟩ => hno j (by omega) h2)]]
         refine FinK.mk ⟨[0], _, _, ⟨rfl, rfl⟩, ?_⟩; (repeat' first | refine And.intro ?_ ?_ | exact xeC | fail)
         done)
  · skip
    have hr : rngP x := by assumption
    have hp0 : x.p = [] ∨ (x.k = 1 ∨ x.k = 5) := by
      first
        | (right; assumption)
        | (left; exact mkS_inj.1 (by assumption))
    have hun : ¬ unuP x := by
      unfold unuP
      rcases hp0 with h | h
      · simp only [h, ne_eq, not_true_eq_false, and_false, or_false]
        omega
      · omega
    refine LoopK.mk' {i : Nat // i ≤ x.m.length ∧ ∀ j, j < i → ¬ badA x j}
      (fun ⟨i, _⟩ => ⟨[(1, .c (.p 1 0 0)), (73, .c (.sl 0 0 1 0 x.m.length c)), (74, .c (.i .i64 x.m.length)), (75, .c (.i .i64 (i : Nat)))], [.one (ints wa x.m c), .one (.cells true (encP (.sl 0 0 1 0 x.m.length c) x))]⟩) (fun k => x.m.length - k.1)
      ⟨⟨0, Nat.zero_le _, by intro j h; omega⟩, [0, 1], ?_⟩ ?_
    · (repeat' first | refine And.intro ?_ ?_ | exact xeC | fail)
    rintro ⟨i, hi, hno⟩
    repeat' (first | (fail_if_success (with_reducible refine xstp ?_)); first | ((with_reducible refine And.intro (fun (hb : _ = true) => ?_) (fun (hb : _ = false) => ?_)) <;> replace hb := xnC hb <;> (try first | exact xfC | exact bff hb (by assumption) | exact bff (by assumption) hb)) | (with_reducible refine Both.mk ?_ ?_) | ((with_reducible refine And.intro ?_ ?_); focus exact xoC) | ((with_reducible refine Or.inl ⟨?_, ?_, ?_⟩); (focus rfl); focus exact xaC) | ((with_reducible refine xwB ?_ ?_); focus exact xaC) | ((with_reducible refine xwC ?_ ?_); focus exact xaC) | ((with_reducible refine xwD ?_ ?_); focus exact xaC) | ((with_reducible refine xwE ?_ ?_); focus exact xaC) | (with_reducible intro hc; (try simp only [capsP, and_true] at hc); (try exact xfC)) | ((fail_if_success (with_reducible first | refine xgon ?_ | intro _)); (conv => whnf); (fail_if_success (fail_if_success (with_reducible first | refine xstp ?_ | refine Both.mk ?_ ?_ | refine xgon ?_ | intro _)))))
    all_goals try simp only [show ((i : Int) - 1).toNat = i - 1 by omega] at *
    all_goals first
      | (have hbad : badA x i := by unfold badA; omega
         have hil : i < x.m.length := by omega
         rw [show chk x = 2 by unfold chk; rw [if_neg (by simpa using hr), if_neg (by omega), if_neg hun, if_pos ⟨i, hil, hbad⟩]]
         refine FinK.mk ⟨[0], _, _, ⟨rfl, rfl⟩, ?_⟩; (repeat' first | refine And.intro ?_ ?_ | exact xeC | fail)
         done)
      | (have hil : i < x.m.length := by omega
         have hbad : ¬ badA x i := by unfold badA; omega
         refine ⟨⟨i + 1, by omega, fun j hj => by
           rcases (by omega : j < i ∨ j = i) with h | rfl
           · exact hno j h
           · exact hbad⟩, [0, 1], by simp only; omega, ?_⟩
         (repeat' first | refine And.intro ?_ ?_ | exact xeC | fail)
         done)
      | (have hil : i = x.m.length := by omega
         rw [show chk x = 0 by unfold chk; rw [if_neg (by simpa using hr), if_neg (by omega), if_neg hun, if_neg (fun ⟨j, h1, h2⟩ => hno j (by omega) h2)]]
         refine FinK.mk ⟨[0], _, _, ⟨rfl, rfl⟩, ?_⟩; (repeat' first | refine And.intro ?_ ?_ | exact xeC | fail)
         done)
  · skip
    have hr : rngP x := by assumption
    have hp0 : x.p = [] ∨ (x.k = 1 ∨ x.k = 5) := by
      first
        | (right; assumption)
        | (left; exact mkS_inj.1 (by assumption))
    have hun : ¬ unuP x := by
      unfold unuP
      rcases hp0 with h | h
      · simp only [h, ne_eq, not_true_eq_false, and_false, or_false]
        omega
      · omega
    refine LoopK.mk' {i : Nat // i ≤ x.m.length ∧ ∀ j, j < i → ¬ badA x j}
      (fun ⟨i, _⟩ => ⟨[(1, .c (.p 1 0 0)), (73, .c (.sl 0 0 1 0 x.m.length c)), (74, .c (.i .i64 x.m.length)), (75, .c (.i .i64 (i : Nat)))], [.one (ints wa x.m c), .one (.cells true (encP (.sl 0 0 1 0 x.m.length c) x))]⟩) (fun k => x.m.length - k.1)
      ⟨⟨0, Nat.zero_le _, by intro j h; omega⟩, [0, 1], ?_⟩ ?_
    · (repeat' first | refine And.intro ?_ ?_ | exact xeC | fail)
    rintro ⟨i, hi, hno⟩
    repeat' (first | (fail_if_success (with_reducible refine xstp ?_)); first | ((with_reducible refine And.intro (fun (hb : _ = true) => ?_) (fun (hb : _ = false) => ?_)) <;> replace hb := xnC hb <;> (try first | exact xfC | exact bff hb (by assumption) | exact bff (by assumption) hb)) | (with_reducible refine Both.mk ?_ ?_) | ((with_reducible refine And.intro ?_ ?_); focus exact xoC) | ((with_reducible refine Or.inl ⟨?_, ?_, ?_⟩); (focus rfl); focus exact xaC) | ((with_reducible refine xwB ?_ ?_); focus exact xaC) | ((with_reducible refine xwC ?_ ?_); focus exact xaC) | ((with_reducible refine xwD ?_ ?_); focus exact xaC) | ((with_reducible refine xwE ?_ ?_); focus exact xaC) | (with_reducible intro hc; (try simp only [capsP, and_true] at hc); (try exact xfC)) | ((fail_if_success (with_reducible first | refine xgon ?_ | intro _)); (conv => whnf); (fail_if_success (fail_if_success (with_reducible first | refine xstp ?_ | refine Both.mk ?_ ?_ | refine xgon ?_ | intro _)))))
    all_goals try simp only [show ((i : Int) - 1).toNat = i - 1 by omega] at *
    all_goals first
      | (have hbad : badA x i := by unfold badA; omega
         have hil : i < x.m.length := by omega
         rw [show chk x = 2 by unfold chk; rw [if_neg (by simpa using hr), if_neg (by omega), if_neg hun, if_pos ⟨i, hil, hbad⟩]]
         refine FinK.mk ⟨[0], _, _, ⟨rfl, rfl⟩, ?_⟩; (repeat' first | refine And.intro ?_ ?_ | exact xeC | fail)
         done)
      | (have hil : i < x.m.length := by omega
         have hbad : ¬ badA x i := by unfold badA; omega
         refine ⟨⟨i + 1, by omega, fun j hj => by
           rcases (by omega : j < i ∨ j = i) with h | rfl
           · exact hno j h
           · exact hbad⟩, [0, 1], by simp only; omega, ?_⟩
         (repeat' first | refine And.intro ?_ ?_ | exact xeC | fail)
         done)
      | (have hil : i = x.m.length := by omega
         rw [show chk x = 0 by unfold chk; rw [if_neg (by simpa using hr), if_neg (by omega), if_neg hun, if_neg (fun ⟨j, h1, h2⟩ => hno j (by omega) h2)]]
         refine FinK.mk ⟨[0], _, _, ⟨rfl, rfl⟩, ?_⟩; (repeat' first | refine And.intro ?_ ?_ | exact xeC | fail)
         done)
end Go.Proofs.Ytgaodeffbgppmaa


namespace Go.Proofs.Ytgaodeffbgppmaa
open Go.X
set_option linter.unusedSimpArgs false
set_option linter.unusedVariables false
end Go.Proofs.Ytgaodeffbgppmaa


namespace Go.Proofs.Ytgaodeffbgppmaa
open Go.X
set_option linter.unusedSimpArgs false
set_option linter.unusedVariables false
open P4
def numsL (l : List Int) : List UInt8 := l.flatMap fun n => venc n.toNat
theorem numsL_le (l : List Int) : (numsL l).length ≤ 10 * l.length := by
  unfold numsL
  induction l with
  | nil => simp
  | cons a l ih =>
    simp only [List.flatMap_cons, List.length_append, List.length_cons]
    have := venc_le a.toNat
    omega
theorem numsL_snoc (l : List Int) {i : Nat} (h : i < l.length) : numsL (l.take (i + 1)) = numsL (l.take i) ++ venc (l.getD i default).toNat := by
  rw [take_snocG l h]
  simp [numsL, List.flatMap_append]
/-- The encoding of a packet. -/
def encL (x : Pk) : List UInt8 := numsL [x.k, x.fr, x.to, x.w, x.r] ++ ((if x.k = 1 ∨ x.k = 4 ∨ x.k = 5 then numsL [x.q] else []) ++ ((if x.k = 2 ∨ x.k = 3 ∨ x.k = 4 then numsL [x.f, x.la] else []) ++
  (numsL [x.at'] ++ ((if x.k = 3 then numsL [(x.m.length : Nat)] ++ numsL x.m else []) ++ (if x.k = 1 ∨ x.k = 5 then textL x.p else [])))))

set_option maxRecDepth 10000 in
theorem cadd (l : List Int) (s : List UInt8) (wa : Bool) (c : Nat) (hl : l.length ≤ 32) (hr : ∀ n ∈ l, 0 ≤ n ∧ n ≤ 1099511627776) (hs : s.length ≤ 100000) :
    Ctr Try.prog 43 [.c (.sl 0 0 1 0 l.length c), .c (.p 1 0 0)] [.one (ints wa l c), .one (.cells true [.s (mkS s)])]
      fun v h => v = .t [] ∧ h = [.one (ints wa l c), .one (.cells true [.s (mkS (s ++ numsL l))])] := by
  refine Ctr.mk' tbv mixed Try.func43 rfl rfl rfl (fun _ _ => by kernel_rfl) (by kernel_rfl) (by rfl) (by rfl) (by (repeat' first | refine And.intro ?_ ?_ | exact xeC | fail)) ?_
  repeat' (first | (fail_if_success (with_reducible refine xstp ?_)); first | ((with_reducible refine And.intro (fun (hb : _ = true) => ?_) (fun (hb : _ = false) => ?_)) <;> replace hb := xnC hb <;> (try first | exact xfC | exact bff hb (by assumption) | exact bff (by assumption) hb)) | (with_reducible refine Both.mk ?_ ?_) | ((with_reducible refine And.intro ?_ ?_); focus exact xoC) | ((with_reducible refine Or.inl ⟨?_, ?_, ?_⟩); (focus rfl); focus exact xaC) | ((with_reducible refine xwB ?_ ?_); focus exact xaC) | ((with_reducible refine xwC ?_ ?_); focus exact xaC) | ((with_reducible refine xwD ?_ ?_); focus exact xaC) | ((with_reducible refine xwE ?_ ?_); focus exact xaC) | (with_reducible intro hc; (try simp only [capsP, and_true] at hc); (try exact xfC)) | ((fail_if_success (with_reducible first | refine xgon ?_ | intro _)); (conv => whnf); (fail_if_success (fail_if_success (with_reducible first | refine xstp ?_ | refine Both.mk ?_ ?_ | refine xgon ?_ | intro _)))))
  refine LoopK.mk' {i : Nat // i ≤ l.length}
    (fun ⟨i, _⟩ => ⟨[(0, .c (.sl 0 0 1 0 l.length c)), (1, .c (.p 1 0 0)), (5, .c (.sl 0 0 1 0 l.length c)), (6, .c (.i .i64 (l.length : Nat))), (7, .c (.i .i64 (i : Nat)))], [.one (ints wa l c), .one (.cells true [.s (mkS (s ++ numsL (l.take i)))])]⟩) (fun k => l.length - k.1)
    ⟨⟨0, Nat.zero_le _⟩, [0, 1], ?_⟩ ?_
  · (repeat' first | refine And.intro ?_ ?_ | exact xeC | fail)
    all_goals (rw [show numsL (l.take 0) = [] by simp [numsL], List.append_nil])
  rintro ⟨i, hi⟩
  have hb1 := numsL_le (l.take i)
  rw [List.length_take] at hb1
  have hz : (mkS (s ++ numsL (l.take i))).size = s.length + (numsL (l.take i)).length := by rw [mkS_size, List.length_append]
  repeat' (first | (fail_if_success (with_reducible refine xstp ?_)); first | ((with_reducible refine And.intro (fun (hb : _ = true) => ?_) (fun (hb : _ = false) => ?_)) <;> replace hb := xnC hb <;> (try first | exact xfC | exact bff hb (by assumption) | exact bff (by assumption) hb)) | (with_reducible refine Both.mk ?_ ?_) | ((with_reducible refine And.intro ?_ ?_); focus exact xoC) | ((with_reducible refine Or.inl ⟨?_, ?_, ?_⟩); (focus rfl); focus exact xaC) | ((with_reducible refine xwB ?_ ?_); focus exact xaC) | ((with_reducible refine xwC ?_ ?_); focus exact xaC) | ((with_reducible refine xwD ?_ ?_); focus exact xaC) | ((with_reducible refine xwE ?_ ?_); focus exact xaC) | (with_reducible intro hc; (try simp only [capsP, and_true] at hc); (try exact xfC)) | ((fail_if_success (with_reducible first | refine xgon ?_ | intro _)); (conv => whnf); (fail_if_success (fail_if_success (with_reducible first | refine xstp ?_ | refine Both.mk ?_ ?_ | refine xgon ?_ | intro _)))))
  · have hx := hr (l.getD i default) (by rw [getD_at (by omega)]; exact List.getElem_mem _)
    have hw : IntKind.u64.wrap (l.getD (0 + (i : Int).toNat) default) = (((l.getD i default).toNat : Nat) : Int) := by
      rw [Int.toNat_natCast, Nat.zero_add, IntKind.wrap_u64]; omega
    rw [hw]
    refine xcal (σ := []) (nl := []) (cUint (l.getD i default).toNat (by omega)) ?_
    rintro v h' ⟨rfl, rfl⟩ hcaps
    have h10 : (mkS (venc (l.getD i default).toNat)).size ≤ 10 := venc_le _
    refine xret ?_
    repeat' (first | (fail_if_success (with_reducible refine xstp ?_)); first | ((with_reducible refine And.intro (fun (hb : _ = true) => ?_) (fun (hb : _ = false) => ?_)) <;> replace hb := xnC hb <;> (try first | exact xfC | exact bff hb (by assumption) | exact bff (by assumption) hb)) | (with_reducible refine Both.mk ?_ ?_) | ((with_reducible refine And.intro ?_ ?_); focus exact xoC) | ((with_reducible refine Or.inl ⟨?_, ?_, ?_⟩); (focus rfl); focus exact xaC) | ((with_reducible refine xwB ?_ ?_); focus exact xaC) | ((with_reducible refine xwC ?_ ?_); focus exact xaC) | ((with_reducible refine xwD ?_ ?_); focus exact xaC) | ((with_reducible refine xwE ?_ ?_); focus exact xaC) | (with_reducible intro hc; (try simp only [capsP, and_true] at hc); (try exact xfC)) | ((fail_if_success (with_reducible first | refine xgon ?_ | intro _)); (conv => whnf); (fail_if_success (fail_if_success (with_reducible first | refine xstp ?_ | refine Both.mk ?_ ?_ | refine xgon ?_ | intro _)))))
    refine ⟨⟨i + 1, by omega⟩, [0, 1], by simp only; omega, ?_⟩
    (repeat' first | refine And.intro ?_ ?_ | exact xeC | fail)
    rw [numsL_snoc l (by omega), mkS_append, List.append_assoc]
  · rw [List.take_of_length_le (by omega)]
    refine FinK.mk ⟨[0, 1], _, _, ⟨rfl, rfl⟩, ?_⟩; (repeat' first | refine And.intro ?_ ?_ | exact xeC | fail)

theorem u64nn {n : Int} (h : 0 ≤ n) (h2 : n ≤ 1099511627776) : IntKind.u64.wrap n = ((n.toNat : Nat) : Int) := by
  rw [IntKind.wrap_u64]; omega

theorem enc_le (x : Pk) (h : chk x = 0) : rngP x ∧ x.p.length ≤ 2000 ∧ x.m.length ≤ 32 ∧ ¬ unuP x ∧ ¬ badP x := by
  unfold chk at h
  repeat' split at h
  all_goals try omega
  rename_i h1 h2 h3 h4
  exact ⟨by simpa using h1, by omega, by omega, h3, h4⟩
theorem enc_m {x : Pk} (h : chk x = 0) : ∀ n ∈ x.m, 0 ≤ n ∧ n ≤ 1099511627776 := by
  obtain ⟨hr, _, _, hun, hb⟩ := enc_le x h
  intro n hn
  obtain ⟨i, hi, rfl⟩ := List.mem_iff_getElem.1 hn
  have h1 : ¬ badA x i := fun h => hb ⟨i, hi, h⟩
  unfold badA at h1
  rw [getD_at hi] at h1
  unfold rngP at hr
  unfold unuP at hun
  omega

theorem rH15pC0 {σ : List Sg} {H h' : List Fam} {v : T} {K : T → List Fam → Prop} {H' : List Fam} {v' : T} {N : Nat} (hk : K v' H') (hN : H.length = N := by (try simp only [↓List.length_cons, ↓List.length_nil, Nat.reduceAdd]) <;> rfl) (h : givesF σ N H σ h' = some H' := by (try simp (maxSteps := 1000000) only [givesF, setF, updF, Fam.zeroth, Fam.rk, Ck.rk, C.rk, E.rk, T.rk, key, List.map_cons, List.map_nil, List.cons_append, List.nil_append, List.length_cons, List.length_nil, Option.map_some, Option.bind_some, Nat.reduceAdd, Nat.zero_add, Nat.add_zero, Nat.add_sub_cancel_left, Int.toNat_natCast, reps, List.all_cons, List.all_nil, C.flat, List.append_eq, Bool.not_true, Bool.and_true, Bool.or_false, Bool.or_self, Bool.not_false, List.append_nil, Bool.and_self, encP]) <;> rfl) (hv : v.rk σ N = v' := by (try simp only [givesF, setF, updF, Fam.zeroth, Fam.rk, Ck.rk, C.rk, E.rk, T.rk, key, List.map_cons, List.map_nil, List.cons_append, List.nil_append, List.length_cons, List.length_nil, Option.map_some, Option.bind_some, Nat.reduceAdd, Nat.zero_add, Nat.add_zero, Nat.add_sub_cancel_left, Int.toNat_natCast, reps, List.all_cons, List.all_nil, C.flat, List.append_eq, Bool.not_true, Bool.and_true, Bool.or_false, Bool.or_self, Bool.not_false, List.append_nil, Bool.and_self, encP]) <;> rfl) : RetG σ H h' v K := ret_mk3 hN h hv hk
theorem rH15pC1 {σ : List Sg} {H h' : List Fam} {v : T} {K : T → List Fam → Prop} {H' : List Fam} {v' : T} {N : Nat} (hk : K v' H') (hN : H.length = N := by (try simp only [↓List.length_cons, ↓List.length_nil, Nat.reduceAdd]) <;> rfl) (h : givesF σ N H σ h' = some H' := by (try simp (maxSteps := 1000000) only [givesF, setF, updF, Fam.zeroth, Fam.rk, Ck.rk, C.rk, E.rk, T.rk, key, List.map_cons, List.map_nil, List.cons_append, List.nil_append, List.length_cons, List.length_nil, Option.map_some, Option.bind_some, Nat.reduceAdd, Nat.zero_add, Nat.add_zero, Nat.add_sub_cancel_left, Int.toNat_natCast, reps, List.all_cons, List.all_nil, C.flat, List.append_eq, Bool.not_true, Bool.and_true, Bool.or_false, Bool.or_self, Bool.not_false, List.append_nil, Bool.and_self, encP, usesL]) <;> rfl) (hv : v.rk σ N = v' := by (try simp only [givesF, setF, updF, Fam.zeroth, Fam.rk, Ck.rk, C.rk, E.rk, T.rk, key, List.map_cons, List.map_nil, List.cons_append, List.nil_append, List.length_cons, List.length_nil, Option.map_some, Option.bind_some, Nat.reduceAdd, Nat.zero_add, Nat.add_zero, Nat.add_sub_cancel_left, Int.toNat_natCast, reps, List.all_cons, List.all_nil, C.flat, List.append_eq, Bool.not_true, Bool.and_true, Bool.or_false, Bool.or_self, Bool.not_false, List.append_nil, Bool.and_self, encP, usesL]) <;> rfl) : RetG σ H h' v K := ret_mk3 hN h hv hk
set_option maxRecDepth 20000 in
set_option maxHeartbeats 4000000 in
theorem cEncode (x : Pk) (wa : Bool) (c : Nat) (hp : x.p.length ≤ 1000000) (hm : x.m.length ≤ 1000000) :
    Ctr Try.prog 18 [.a (encP (.sl 0 0 1 0 x.m.length c) x)] [.one (ints wa x.m c)] fun v h => v = .t [.c (.s (mkS (if chk x = 0 then encL x else []))), .c (.i .i64 (chk x : Nat))] ∧ h = [.one (ints wa x.m c)] := by
  refine Ctr.mk' tbv mixed Try.func18 rfl rfl rfl (fun _ _ => by kernel_rfl) (by kernel_rfl) (by rfl) (by rfl) (by (repeat' first | refine And.intro ?_ ?_ | exact xeC | fail)) ?_
  repeat' (first | (fail_if_success (with_reducible refine xstp ?_)); first | ((with_reducible refine And.intro (fun (hb : _ = true) => ?_) (fun (hb : _ = false) => ?_)) <;> replace hb := xnC hb <;> (try first | exact xfC | exact bff hb (by assumption) | exact bff (by assumption) hb)) | (with_reducible refine Both.mk ?_ ?_) | ((with_reducible refine And.intro ?_ ?_); focus exact xoC) | ((with_reducible refine Or.inl ⟨?_, ?_, ?_⟩); (focus rfl); focus exact xaC) | ((with_reducible refine xwB ?_ ?_); focus exact xaC) | ((with_reducible refine xwC ?_ ?_); focus exact xaC) | ((with_reducible refine xwD ?_ ?_); focus exact xaC) | ((with_reducible refine xwE ?_ ?_); focus exact xaC) | (with_reducible intro hc; (try simp only [capsP, and_true] at hc); (try exact xfC)) | ((fail_if_success (with_reducible first | refine xgon ?_ | intro _)); (conv => whnf); (fail_if_success (fail_if_success (with_reducible first | refine xstp ?_ | refine Both.mk ?_ ?_ | refine xgon ?_ | intro _)))))
  refine xcal (σ := [.whole 0]) (nl := []) (cCheck x wa c hp hm) ?_
  rintro v h' ⟨rfl, rfl⟩ hcaps
  refine rH15pC0 ?_
  repeat' (first | (fail_if_success (with_reducible refine xstp ?_)); first | ((with_reducible refine And.intro (fun (hb : _ = true) => ?_) (fun (hb : _ = false) => ?_)) <;> replace hb := xnC hb <;> (try first | exact xfC | exact bff hb (by assumption) | exact bff (by assumption) hb)) | (with_reducible refine Both.mk ?_ ?_) | ((with_reducible refine And.intro ?_ ?_); focus exact xoC) | ((with_reducible refine Or.inl ⟨?_, ?_, ?_⟩); (focus rfl); focus exact xaC) | ((with_reducible refine xwB ?_ ?_); focus exact xaC) | ((with_reducible refine xwC ?_ ?_); focus exact xaC) | ((with_reducible refine xwD ?_ ?_); focus exact xaC) | ((with_reducible refine xwE ?_ ?_); focus exact xaC) | (with_reducible intro hc; (try simp only [capsP, and_true] at hc); (try exact xfC)) | ((fail_if_success (with_reducible first | refine xgon ?_ | intro _)); (conv => whnf); (fail_if_success (fail_if_success (with_reducible first | refine xstp ?_ | refine Both.mk ?_ ?_ | refine xgon ?_ | intro _)))))
  · rw [if_neg (by omega)]
    refine FinK.mk ⟨[0], _, _, ⟨rfl, rfl⟩, ?_⟩; (repeat' first | refine And.intro ?_ ?_ | exact xeC | fail)
  have hck : chk x = 0 := by omega
  obtain ⟨hr, hp2, hm2, hun, hbad⟩ := enc_le x hck
  have hem := enc_m hck
  have hr2 := hr
  unfold rngP at hr2
  rw [if_pos hck]
  refine xcal (σ := []) (nl := []) (cuses x.k) ?_
  rintro v h' ⟨rfl, rfl⟩ hcaps
  refine rH15pC1 ?_
  repeat' (first | (fail_if_success (with_reducible refine xstp ?_)); first | ((with_reducible refine And.intro (fun (hb : _ = true) => ?_) (fun (hb : _ = false) => ?_)) <;> replace hb := xnC hb <;> (try first | exact xfC | exact bff hb (by assumption) | exact bff (by assumption) hb)) | (with_reducible refine Both.mk ?_ ?_) | ((with_reducible refine And.intro ?_ ?_); focus exact xoC) | ((with_reducible refine Or.inl ⟨?_, ?_, ?_⟩); (focus rfl); focus exact xaC) | ((with_reducible refine xwB ?_ ?_); focus exact xaC) | ((with_reducible refine xwC ?_ ?_); focus exact xaC) | ((with_reducible refine xwD ?_ ?_); focus exact xaC) | ((with_reducible refine xwE ?_ ?_); focus exact xaC) | (with_reducible intro hc; (try simp only [capsP, and_true] at hc); (try exact xfC)) | ((fail_if_success (with_reducible first | refine xgon ?_ | intro _)); (conv => whnf); (fail_if_success (fail_if_success (with_reducible first | refine xstp ?_ | refine Both.mk ?_ ?_ | refine xgon ?_ | intro _)))))
  have hA := numsL_le [x.k, x.fr, x.to, x.w, x.r]
  have hB := numsL_le [x.q]
  have hF := numsL_le [x.f, x.la]
  have hT := numsL_le [x.at']
  have hN := numsL_le [(x.m.length : Nat)]
  have hM := numsL_le x.m
  simp only [List.length_cons, List.length_nil] at hA hB hF hT hN
  refine xcal (σ := [.whole 4, .whole 3]) (nl := []) (cadd ([x.k, x.fr, x.to, x.w, x.r]) ([]) true _ (Nat.le_of_ble_eq_true rfl) (by intro n hn; simp only [List.mem_cons, List.not_mem_nil, or_false] at hn; omega) (by first | omega | (simp only [List.length_append, List.length_nil]; omega))) ?_ (hle := by (repeat' first | refine And.intro ?_ ?_ | exact xeC | fail) <;> (intro i hi; first | (have h1 : i < 1 := hi; obtain rfl : i = 0 := (by omega); rfl) | (have h1 : i < 2 := hi; rcases (by omega : i = 0 ∨ i = 1) with rfl | rfl <;> rfl) | (have h1 : i < 5 := hi; rcases (by omega : i = 0 ∨ i = 1 ∨ i = 2 ∨ i = 3 ∨ i = 4) with rfl | rfl | rfl | rfl | rfl <;> rfl)))
  rintro v h' ⟨rfl, rfl⟩ hcaps
  refine rH15pC0 ?_
  repeat' (first | (fail_if_success (with_reducible refine xstp ?_)); first | ((with_reducible refine And.intro (fun (hb : _ = true) => ?_) (fun (hb : _ = false) => ?_)) <;> replace hb := xnC hb <;> (try first | exact xfC | exact bff hb (by assumption) | exact bff (by assumption) hb)) | (with_reducible refine Both.mk ?_ ?_) | ((with_reducible refine And.intro ?_ ?_); focus exact xoC) | ((with_reducible refine Or.inl ⟨?_, ?_, ?_⟩); (focus rfl); focus exact xaC) | ((with_reducible refine xwB ?_ ?_); focus exact xaC) | ((with_reducible refine xwC ?_ ?_); focus exact xaC) | ((with_reducible refine xwD ?_ ?_); focus exact xaC) | ((with_reducible refine xwE ?_ ?_); focus exact xaC) | (with_reducible intro hc; (try simp only [capsP, and_true] at hc); (try exact xfC)) | ((fail_if_success (with_reducible first | refine xgon ?_ | intro _)); (conv => whnf); (fail_if_success (fail_if_success (with_reducible first | refine xstp ?_ | refine Both.mk ?_ ?_ | refine xgon ?_ | intro _)))))
  · skip
    refine xcal (σ := [.whole 5, .whole 3]) (nl := []) (cadd ([x.q]) (numsL [x.k, x.fr, x.to, x.w, x.r]) true _ (Nat.le_of_ble_eq_true rfl) (by intro n hn; simp only [List.mem_cons, List.not_mem_nil, or_false] at hn; omega) (by first | omega | (simp only [List.length_append, List.length_nil]; omega))) ?_ (hle := by (repeat' first | refine And.intro ?_ ?_ | exact xeC | fail) <;> (intro i hi; first | (have h1 : i < 1 := hi; obtain rfl : i = 0 := (by omega); rfl) | (have h1 : i < 2 := hi; rcases (by omega : i = 0 ∨ i = 1) with rfl | rfl <;> rfl) | (have h1 : i < 5 := hi; rcases (by omega : i = 0 ∨ i = 1 ∨ i = 2 ∨ i = 3 ∨ i = 4) with rfl | rfl | rfl | rfl | rfl <;> rfl)))
    rintro v h' ⟨rfl, rfl⟩ hcaps
    refine rH15pC0 ?_
    repeat' (first | (fail_if_success (with_reducible refine xstp ?_)); first | ((with_reducible refine And.intro (fun (hb : _ = true) => ?_) (fun (hb : _ = false) => ?_)) <;> replace hb := xnC hb <;> (try first | exact xfC | exact bff hb (by assumption) | exact bff (by assumption) hb)) | (with_reducible refine Both.mk ?_ ?_) | ((with_reducible refine And.intro ?_ ?_); focus exact xoC) | ((with_reducible refine Or.inl ⟨?_, ?_, ?_⟩); (focus rfl); focus exact xaC) | ((with_reducible refine xwB ?_ ?_); focus exact xaC) | ((with_reducible refine xwC ?_ ?_); focus exact xaC) | ((with_reducible refine xwD ?_ ?_); focus exact xaC) | ((with_reducible refine xwE ?_ ?_); focus exact xaC) | (with_reducible intro hc; (try simp only [capsP, and_true] at hc); (try exact xfC)) | ((fail_if_success (with_reducible first | refine xgon ?_ | intro _)); (conv => whnf); (fail_if_success (fail_if_success (with_reducible first | refine xstp ?_ | refine Both.mk ?_ ?_ | refine xgon ?_ | intro _)))))
    · skip
      refine xcal (σ := [.whole 6, .whole 3]) (nl := []) (cadd ([x.f, x.la]) (numsL [x.k, x.fr, x.to, x.w, x.r] ++ numsL [x.q]) true _ (Nat.le_of_ble_eq_true rfl) (by intro n hn; simp only [List.mem_cons, List.not_mem_nil, or_false] at hn; omega) (by first | omega | (simp only [List.length_append, List.length_nil]; omega))) ?_ (hle := by (repeat' first | refine And.intro ?_ ?_ | exact xeC | fail) <;> (intro i hi; first | (have h1 : i < 1 := hi; obtain rfl : i = 0 := (by omega); rfl) | (have h1 : i < 2 := hi; rcases (by omega : i = 0 ∨ i = 1) with rfl | rfl <;> rfl) | (have h1 : i < 5 := hi; rcases (by omega : i = 0 ∨ i = 1 ∨ i = 2 ∨ i = 3 ∨ i = 4) with rfl | rfl | rfl | rfl | rfl <;> rfl)))
      rintro v h' ⟨rfl, rfl⟩ hcaps
      refine rH15pC0 ?_
      repeat' (first | (fail_if_success (with_reducible refine xstp ?_)); first | ((with_reducible refine And.intro (fun (hb : _ = true) => ?_) (fun (hb : _ = false) => ?_)) <;> replace hb := xnC hb <;> (try first | exact xfC | exact bff hb (by assumption) | exact bff (by assumption) hb)) | (with_reducible refine Both.mk ?_ ?_) | ((with_reducible refine And.intro ?_ ?_); focus exact xoC) | ((with_reducible refine Or.inl ⟨?_, ?_, ?_⟩); (focus rfl); focus exact xaC) | ((with_reducible refine xwB ?_ ?_); focus exact xaC) | ((with_reducible refine xwC ?_ ?_); focus exact xaC) | ((with_reducible refine xwD ?_ ?_); focus exact xaC) | ((with_reducible refine xwE ?_ ?_); focus exact xaC) | (with_reducible intro hc; (try simp only [capsP, and_true] at hc); (try exact xfC)) | ((fail_if_success (with_reducible first | refine xgon ?_ | intro _)); (conv => whnf); (fail_if_success (fail_if_success (with_reducible first | refine xstp ?_ | refine Both.mk ?_ ?_ | refine xgon ?_ | intro _)))))
      refine xcal (σ := [.whole 7, .whole 3]) (nl := []) (cadd ([x.at']) (numsL [x.k, x.fr, x.to, x.w, x.r] ++ numsL [x.q] ++ numsL [x.f, x.la]) true _ (Nat.le_of_ble_eq_true rfl) (by intro n hn; simp only [List.mem_cons, List.not_mem_nil, or_false] at hn; omega) (by first | omega | (simp only [List.length_append, List.length_nil]; omega))) ?_ (hle := by (repeat' first | refine And.intro ?_ ?_ | exact xeC | fail) <;> (intro i hi; first | (have h1 : i < 1 := hi; obtain rfl : i = 0 := (by omega); rfl) | (have h1 : i < 2 := hi; rcases (by omega : i = 0 ∨ i = 1) with rfl | rfl <;> rfl) | (have h1 : i < 5 := hi; rcases (by omega : i = 0 ∨ i = 1 ∨ i = 2 ∨ i = 3 ∨ i = 4) with rfl | rfl | rfl | rfl | rfl <;> rfl)))
      rintro v h' ⟨rfl, rfl⟩ hcaps
      refine rH15pC0 ?_
      repeat' (first | (fail_if_success (with_reducible refine xstp ?_)); first | ((with_reducible refine And.intro (fun (hb : _ = true) => ?_) (fun (hb : _ = false) => ?_)) <;> replace hb := xnC hb <;> (try first | exact xfC | exact bff hb (by assumption) | exact bff (by assumption) hb)) | (with_reducible refine Both.mk ?_ ?_) | ((with_reducible refine And.intro ?_ ?_); focus exact xoC) | ((with_reducible refine Or.inl ⟨?_, ?_, ?_⟩); (focus rfl); focus exact xaC) | ((with_reducible refine xwB ?_ ?_); focus exact xaC) | ((with_reducible refine xwC ?_ ?_); focus exact xaC) | ((with_reducible refine xwD ?_ ?_); focus exact xaC) | ((with_reducible refine xwE ?_ ?_); focus exact xaC) | (with_reducible intro hc; (try simp only [capsP, and_true] at hc); (try exact xfC)) | ((fail_if_success (with_reducible first | refine xgon ?_ | intro _)); (conv => whnf); (fail_if_success (fail_if_success (with_reducible first | refine xstp ?_ | refine Both.mk ?_ ?_ | refine xgon ?_ | intro _)))))
      refine FinK.mk ⟨[0], _, _, ⟨rfl, rfl⟩, ?_⟩; (repeat' first | refine And.intro ?_ ?_ | exact xeC | fail)
      all_goals first
        | omega
        | (unfold encL
           (repeat' split) <;> first
             | (exfalso; omega)
             | (simp only [List.append_assoc, List.nil_append, List.append_nil]; done))
    · skip
      refine xcal (σ := [.whole 6, .whole 3]) (nl := []) (cadd ([x.at']) (numsL [x.k, x.fr, x.to, x.w, x.r] ++ numsL [x.q]) true _ (Nat.le_of_ble_eq_true rfl) (by intro n hn; simp only [List.mem_cons, List.not_mem_nil, or_false] at hn; omega) (by first | omega | (simp only [List.length_append, List.length_nil]; omega))) ?_ (hle := by (repeat' first | refine And.intro ?_ ?_ | exact xeC | fail) <;> (intro i hi; first | (have h1 : i < 1 := hi; obtain rfl : i = 0 := (by omega); rfl) | (have h1 : i < 2 := hi; rcases (by omega : i = 0 ∨ i = 1) with rfl | rfl <;> rfl) | (have h1 : i < 5 := hi; rcases (by omega : i = 0 ∨ i = 1 ∨ i = 2 ∨ i = 3 ∨ i = 4) with rfl | rfl | rfl | rfl | rfl <;> rfl)))
      rintro v h' ⟨rfl, rfl⟩ hcaps
      refine rH15pC0 ?_
      repeat' (first | (fail_if_success (with_reducible refine xstp ?_)); first | ((with_reducible refine And.intro (fun (hb : _ = true) => ?_) (fun (hb : _ = false) => ?_)) <;> replace hb := xnC hb <;> (try first | exact xfC | exact bff hb (by assumption) | exact bff (by assumption) hb)) | (with_reducible refine Both.mk ?_ ?_) | ((with_reducible refine And.intro ?_ ?_); focus exact xoC) | ((with_reducible refine Or.inl ⟨?_, ?_, ?_⟩); (focus rfl); focus exact xaC) | ((with_reducible refine xwB ?_ ?_); focus exact xaC) | ((with_reducible refine xwC ?_ ?_); focus exact xaC) | ((with_reducible refine xwD ?_ ?_); focus exact xaC) | ((with_reducible refine xwE ?_ ?_); focus exact xaC) | (with_reducible intro hc; (try simp only [capsP, and_true] at hc); (try exact xfC)) | ((fail_if_success (with_reducible first | refine xgon ?_ | intro _)); (conv => whnf); (fail_if_success (fail_if_success (with_reducible first | refine xstp ?_ | refine Both.mk ?_ ?_ | refine xgon ?_ | intro _)))))
      refine xcal (σ := []) (nl := []) (cText x.p (by omega)) ?_
      rintro v h' ⟨rfl, rfl⟩ hcaps
      have hz1 : (mkS (numsL [x.k, x.fr, x.to, x.w, x.r] ++ numsL [x.q] ++ numsL [x.at'])).size ≤ 1000 := by rw [mkS_size]; simp only [List.length_append]; omega
      have hz2 : (mkS (textL x.p)).size ≤ 10000 := by rw [mkS_size]; unfold textL; have := venc_le x.p.length; simp only [List.length_append]; omega
      refine rH15pC0 ?_
      repeat' (first | (fail_if_success (with_reducible refine xstp ?_)); first | ((with_reducible refine And.intro (fun (hb : _ = true) => ?_) (fun (hb : _ = false) => ?_)) <;> replace hb := xnC hb <;> (try first | exact xfC | exact bff hb (by assumption) | exact bff (by assumption) hb)) | (with_reducible refine Both.mk ?_ ?_) | ((with_reducible refine And.intro ?_ ?_); focus exact xoC) | ((with_reducible refine Or.inl ⟨?_, ?_, ?_⟩); (focus rfl); focus exact xaC) | ((with_reducible refine xwB ?_ ?_); focus exact xaC) | ((with_reducible refine xwC ?_ ?_); focus exact xaC) | ((with_reducible refine xwD ?_ ?_); focus exact xaC) | ((with_reducible refine xwE ?_ ?_); focus exact xaC) | (with_reducible intro hc; (try simp only [capsP, and_true] at hc); (try exact xfC)) | ((fail_if_success (with_reducible first | refine xgon ?_ | intro _)); (conv => whnf); (fail_if_success (fail_if_success (with_reducible first | refine xstp ?_ | refine Both.mk ?_ ?_ | refine xgon ?_ | intro _)))))
      rw [mkS_append]
      refine FinK.mk ⟨[0], _, _, ⟨rfl, rfl⟩, ?_⟩; (repeat' first | refine And.intro ?_ ?_ | exact xeC | fail)
      all_goals first
        | omega
        | (unfold encL
           (repeat' split) <;> first
             | (exfalso; omega)
             | (simp only [List.append_assoc, List.nil_append, List.append_nil]; done))
  · skip
    refine xcal (σ := [.whole 5, .whole 3]) (nl := []) (cadd ([x.f, x.la]) (numsL [x.k, x.fr, x.to, x.w, x.r]) true _ (Nat.le_of_ble_eq_true rfl) (by intro n hn; simp only [List.mem_cons, List.not_mem_nil, or_false] at hn; omega) (by first | omega | (simp only [List.length_append, List.length_nil]; omega))) ?_ (hle := by (repeat' first | refine And.intro ?_ ?_ | exact xeC | fail) <;> (intro i hi; first | (have h1 : i < 1 := hi; obtain rfl : i = 0 := (by omega); rfl) | (have h1 : i < 2 := hi; rcases (by omega : i = 0 ∨ i = 1) with rfl | rfl <;> rfl) | (have h1 : i < 5 := hi; rcases (by omega : i = 0 ∨ i = 1 ∨ i = 2 ∨ i = 3 ∨ i = 4) with rfl | rfl | rfl | rfl | rfl <;> rfl)))
    rintro v h' ⟨rfl, rfl⟩ hcaps
    refine rH15pC0 ?_
    repeat' (first | (fail_if_success (with_reducible refine xstp ?_)); first | ((with_reducible refine And.intro (fun (hb : _ = true) => ?_) (fun (hb : _ = false) => ?_)) <;> replace hb := xnC hb <;> (try first | exact xfC | exact bff hb (by assumption) | exact bff (by assumption) hb)) | (with_reducible refine Both.mk ?_ ?_) | ((with_reducible refine And.intro ?_ ?_); focus exact xoC) | ((with_reducible refine Or.inl ⟨?_, ?_, ?_⟩); (focus rfl); focus exact xaC) | ((with_reducible refine xwB ?_ ?_); focus exact xaC) | ((with_reducible refine xwC ?_ ?_); focus exact xaC) | ((with_reducible refine xwD ?_ ?_); focus exact xaC) | ((with_reducible refine xwE ?_ ?_); focus exact xaC) | (with_reducible intro hc; (try simp only [capsP, and_true] at hc); (try exact xfC)) | ((fail_if_success (with_reducible first | refine xgon ?_ | intro _)); (conv => whnf); (fail_if_success (fail_if_success (with_reducible first | refine xstp ?_ | refine Both.mk ?_ ?_ | refine xgon ?_ | intro _)))))
    refine xcal (σ := [.whole 6, .whole 3]) (nl := []) (cadd ([x.at']) (numsL [x.k, x.fr, x.to, x.w, x.r] ++ numsL [x.f, x.la]) true _ (Nat.le_of_ble_eq_true rfl) (by intro n hn; simp only [List.mem_cons, List.not_mem_nil, or_false] at hn; omega) (by first | omega | (simp only [List.length_append, List.length_nil]; omega))) ?_ (hle := by (repeat' first | refine And.intro ?_ ?_ | exact xeC | fail) <;> (intro i hi; first | (have h1 : i < 1 := hi; obtain rfl : i = 0 := (by omega); rfl) | (have h1 : i < 2 := hi; rcases (by omega : i = 0 ∨ i = 1) with rfl | rfl <;> rfl) | (have h1 : i < 5 := hi; rcases (by omega : i = 0 ∨ i = 1 ∨ i = 2 ∨ i = 3 ∨ i = 4) with rfl | rfl | rfl | rfl | rfl <;> rfl)))
    rintro v h' ⟨rfl, rfl⟩ hcaps
    refine rH15pC0 ?_
    repeat' (first | (fail_if_success (with_reducible refine xstp ?_)); first | ((with_reducible refine And.intro (fun (hb : _ = true) => ?_) (fun (hb : _ = false) => ?_)) <;> replace hb := xnC hb <;> (try first | exact xfC | exact bff hb (by assumption) | exact bff (by assumption) hb)) | (with_reducible refine Both.mk ?_ ?_) | ((with_reducible refine And.intro ?_ ?_); focus exact xoC) | ((with_reducible refine Or.inl ⟨?_, ?_, ?_⟩); (focus rfl); focus exact xaC) | ((with_reducible refine xwB ?_ ?_); focus exact xaC) | ((with_reducible refine xwC ?_ ?_); focus exact xaC) | ((with_reducible refine xwD ?_ ?_); focus exact xaC) | ((with_reducible refine xwE ?_ ?_); focus exact xaC) | (with_reducible intro hc; (try simp only [capsP, and_true] at hc); (try exact xfC)) | ((fail_if_success (with_reducible first | refine xgon ?_ | intro _)); (conv => whnf); (fail_if_success (fail_if_success (with_reducible first | refine xstp ?_ | refine Both.mk ?_ ?_ | refine xgon ?_ | intro _)))))
    · skip
      refine xcal (σ := [.whole 7, .whole 3]) (nl := []) (cadd ([(x.m.length : Nat)]) (numsL [x.k, x.fr, x.to, x.w, x.r] ++ numsL [x.f, x.la] ++ numsL [x.at']) true _ (Nat.le_of_ble_eq_true rfl) (by intro n hn; simp only [List.mem_cons, List.not_mem_nil, or_false] at hn; omega) (by first | omega | (simp only [List.length_append, List.length_nil]; omega))) ?_ (hle := by (repeat' first | refine And.intro ?_ ?_ | exact xeC | fail) <;> (intro i hi; first | (have h1 : i < 1 := hi; obtain rfl : i = 0 := (by omega); rfl) | (have h1 : i < 2 := hi; rcases (by omega : i = 0 ∨ i = 1) with rfl | rfl <;> rfl) | (have h1 : i < 5 := hi; rcases (by omega : i = 0 ∨ i = 1 ∨ i = 2 ∨ i = 3 ∨ i = 4) with rfl | rfl | rfl | rfl | rfl <;> rfl)))
      rintro v h' ⟨rfl, rfl⟩ hcaps
      refine rH15pC0 ?_
      repeat' (first | (fail_if_success (with_reducible refine xstp ?_)); first | ((with_reducible refine And.intro (fun (hb : _ = true) => ?_) (fun (hb : _ = false) => ?_)) <;> replace hb := xnC hb <;> (try first | exact xfC | exact bff hb (by assumption) | exact bff (by assumption) hb)) | (with_reducible refine Both.mk ?_ ?_) | ((with_reducible refine And.intro ?_ ?_); focus exact xoC) | ((with_reducible refine Or.inl ⟨?_, ?_, ?_⟩); (focus rfl); focus exact xaC) | ((with_reducible refine xwB ?_ ?_); focus exact xaC) | ((with_reducible refine xwC ?_ ?_); focus exact xaC) | ((with_reducible refine xwD ?_ ?_); focus exact xaC) | ((with_reducible refine xwE ?_ ?_); focus exact xaC) | (with_reducible intro hc; (try simp only [capsP, and_true] at hc); (try exact xfC)) | ((fail_if_success (with_reducible first | refine xgon ?_ | intro _)); (conv => whnf); (fail_if_success (fail_if_success (with_reducible first | refine xstp ?_ | refine Both.mk ?_ ?_ | refine xgon ?_ | intro _)))))
      refine xcal (σ := [.whole 0, .whole 3]) (nl := []) (cadd x.m (numsL [x.k, x.fr, x.to, x.w, x.r] ++ numsL [x.f, x.la] ++ numsL [x.at'] ++ numsL [(x.m.length : Nat)]) wa c hm2 hem (by simp only [List.length_append]; omega)) ?_
      rintro v h' ⟨rfl, rfl⟩ hcaps
      refine rH15pC0 ?_
      repeat' (first | (fail_if_success (with_reducible refine xstp ?_)); first | ((with_reducible refine And.intro (fun (hb : _ = true) => ?_) (fun (hb : _ = false) => ?_)) <;> replace hb := xnC hb <;> (try first | exact xfC | exact bff hb (by assumption) | exact bff (by assumption) hb)) | (with_reducible refine Both.mk ?_ ?_) | ((with_reducible refine And.intro ?_ ?_); focus exact xoC) | ((with_reducible refine Or.inl ⟨?_, ?_, ?_⟩); (focus rfl); focus exact xaC) | ((with_reducible refine xwB ?_ ?_); focus exact xaC) | ((with_reducible refine xwC ?_ ?_); focus exact xaC) | ((with_reducible refine xwD ?_ ?_); focus exact xaC) | ((with_reducible refine xwE ?_ ?_); focus exact xaC) | (with_reducible intro hc; (try simp only [capsP, and_true] at hc); (try exact xfC)) | ((fail_if_success (with_reducible first | refine xgon ?_ | intro _)); (conv => whnf); (fail_if_success (fail_if_success (with_reducible first | refine xstp ?_ | refine Both.mk ?_ ?_ | refine xgon ?_ | intro _)))))
      refine FinK.mk ⟨[0], _, _, ⟨rfl, rfl⟩, ?_⟩; (repeat' first | refine And.intro ?_ ?_ | exact xeC | fail)
      all_goals first
        | omega
        | (unfold encL
           (repeat' split) <;> first
             | (exfalso; omega)
             | (simp only [List.append_assoc, List.nil_append, List.append_nil]; done))
    · skip
      refine FinK.mk ⟨[0], _, _, ⟨rfl, rfl⟩, ?_⟩; (repeat' first | refine And.intro ?_ ?_ | exact xeC | fail)
      all_goals first
        | omega
        | (unfold encL
           (repeat' split) <;> first
             | (exfalso; omega)
             | (simp only [List.append_assoc, List.nil_append, List.append_nil]; done))


end Go.Proofs.Ytgaodeffbgppmaa


namespace Go.Proofs.Ytgaodeffbgppmaa
open Go.X
set_option linter.unusedSimpArgs false
set_option linter.unusedVariables false
open P4
abbrev noI : List Int := []
def st (s : ByteArray) (U : Prop) [Decidable U] (q : Nat × Nat) : Nat × Nat × Nat := if U then rdS s q.1 q.2 1099511627776 else (0, q)
theorem rdT_len (s : ByteArray) (a e : Nat) (m : Int) : (rdT s a e m).1.length ≤ s.size := by
  rw [rdT_U]
  repeat' split
  all_goals first
    | exact Nat.zero_le _
    | (simp only [List.length_take, List.length_drop, size_len]; omega)
end Go.Proofs.Ytgaodeffbgppmaa


namespace Go.Proofs.Ytgaodeffbgppmaa
open Go.X
set_option linter.unusedSimpArgs false
set_option linter.unusedVariables false
open P4
end Go.Proofs.Ytgaodeffbgppmaa

