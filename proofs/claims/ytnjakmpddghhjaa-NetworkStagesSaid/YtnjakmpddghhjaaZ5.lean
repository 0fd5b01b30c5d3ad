/- Part 5 of the texts that a walk of this program rests on: an abstract machine, its soundness, contracts of functions. No statement of the seat is proved in this file. -/
import Derived.Test.YtnjakmpddghhjaaZ4
namespace Go.Proofs.Ytnjakmpddghhjaa
open Go.X
set_option linter.unusedSimpArgs false
set_option linter.unusedVariables false
def sentF : List Opn → Nt → List Arv → Nt × List Arv
  | [], X, L => (X, L)
  | o :: O, X, L => if sndE X o.at_ o.fr o.to o.d = 0 then sentF O (snd X o.at_ o.fr o.to o.d) (L ++ [⟨o.at_, o.fr, o.to, X.cnt + 1, 0, o.d⟩]) else sentF O X L
theorem rH14aM0 {σ : List Sg} {H h' : List Fam} {v : T} {K : T → List Fam → Prop} {H' : List Fam} {v' : T} {N : Nat} (hk : K v' H') (hN : H.length = N := by (try simp only [↓List.length_cons, ↓List.length_nil, Nat.reduceAdd]) <;> rfl) (h : givesF σ N H σ h' = some H' := by (try simp (maxSteps := 1000000) only [givesF, setF, updF, Fam.zeroth, Fam.rk, Ck.rk, C.rk, E.rk, T.rk, key, List.map_cons, List.map_nil, List.cons_append, List.nil_append, List.length_cons, List.length_nil, Option.map_some, Option.bind_some, Nat.reduceAdd, Nat.zero_add, Nat.add_zero, Nat.add_sub_cancel_left, Int.toNat_natCast, reps, List.all_cons, List.all_nil, C.flat, List.append_eq, Bool.not_true, Bool.and_true, Bool.or_false, Bool.or_self, Bool.not_false, List.append_nil, Bool.and_self, ↓lsG_rk, encO]) <;> rfl) (hv : v.rk σ N = v' := by (try simp only [givesF, setF, updF, Fam.zeroth, Fam.rk, Ck.rk, C.rk, E.rk, T.rk, key, List.map_cons, List.map_nil, List.cons_append, List.nil_append, List.length_cons, List.length_nil, Option.map_some, Option.bind_some, Nat.reduceAdd, Nat.zero_add, Nat.add_zero, Nat.add_sub_cancel_left, Int.toNat_natCast, reps, List.all_cons, List.all_nil, C.flat, List.append_eq, Bool.not_true, Bool.and_true, Bool.or_false, Bool.or_self, Bool.not_false, List.append_nil, Bool.and_self, ↓lsG_rk, encO]) <;> rfl) : RetG σ H h' v K := ret_mk3 hN h hv hk
theorem cH14aM1 {P : Program} {F : Nat} {args : List T} {H : List Fam} {K : T → List Fam → Prop} {σ : List Sg} {nl : List Fam} {args0 : List T} {h0 : List Fam} {Q : T → List Fam → Prop} {H2 H1 : List Fam} {N n : Nat} (hc : Ctr P F args0 h0 Q) (hk : ∀ v h', Q v h' → capsP h' → RetG σ H2 h' v K) (hap : apart σ = true := by rfl) (hnl : nl.all nilB = true := by rfl) (h1 : H ++ nl = H1 := by first | exact List.append_nil _ | ((try simp only [List.cons_append, List.nil_append]) <;> rfl)) (hN : H1.length = N := by (try simp only [↓List.length_cons, ↓List.length_nil, Nat.reduceAdd]) <;> rfl) (hn : H.length = n := by (try simp only [↓List.length_cons, ↓List.length_nil, Nat.reduceAdd]) <;> rfl) (hH : givesF σ N H1 σ h0 = some H2 := by (try simp (maxSteps := 1000000) only [givesF, setF, updF, Fam.zeroth, Fam.rk, Ck.rk, C.rk, E.rk, T.rk, key, List.map_cons, List.map_nil, List.cons_append, List.nil_append, List.length_cons, List.length_nil, Option.map_some, Option.bind_some, Nat.reduceAdd, Nat.zero_add, Nat.add_zero, Nat.add_sub_cancel_left, Int.toNat_natCast, reps, List.all_cons, List.all_nil, C.flat, List.append_eq, Bool.not_true, Bool.and_true, Bool.or_false, Bool.or_self, Bool.not_false, List.append_nil, Bool.and_self, ↓lsG_rk]) <;> rfl) (hle : leS n H1 σ N σ h0 (belsK N (h0.map (Fam.rk σ N)) (argsK n args (args0.map (T.rk σ N)) True)) := by repeat' first | refine And.intro ?_ ?_ | exact xeC | fail) : CallK P F args H K := CallK.mk3 hc hap hnl h1 hN hn hH hle hk
set_option maxRecDepth 20000 in
set_option maxHeartbeats 4000000 in
theorem csent {N : Pg} {X : Nt} (hr : Rl N X) (hx : XB X) (h0 : X.cnt = 0) (O : List Opn) (c cO : Nat) (cs : Nat → Nat) (hO : O.length ≤ 9223372036854775807) :
    Ctr Try.prog 10 [.c (.p 0 0 0), .c (.sl 4 0 5 0 O.length cO)] [.one (pgC2 N c 2 1), .one (fltR true N.F c), .one (mapN 3 N.M N.D cs N.ck), arrs N.D cs, .one (opsR O cO)]
      fun v h => ∃ N' X' L cs' c1, sentF (O.take 200) X [] = (X', L) ∧ Rl N' X' ∧ XB X' ∧ X'.cnt = L.length ∧ L.length ≤ 200 ∧ v = .t [.c (.sl 7 0 5 0 L.length c1), .c .tt] ∧
        h = [.one (pgC2 N' c 5 1), .one (fltR true N'.F c), .one .no, .one .no, .one (opsR O cO), .one (mapN 6 N'.M N'.D cs' N'.ck), arrs N'.D cs', .one (arvP L c1)] := by
  refine Ctr.mk' tbv mixed Try.func10 rfl rfl rfl (fun _ _ => by kernel_rfl) (by kernel_rfl) (by rfl) (by rfl) (by (repeat' first | refine And.intro ?_ ?_ | exact xeC | fail) <;> exact fun x => lsG_bel) ?_
  repeat' (first | (fail_if_success (with_reducible refine xstp ?_)); first | ((with_reducible refine And.intro (fun (hb : _ = true) => ?_) (fun (hb : _ = false) => ?_)) <;> replace hb := xnC hb <;> (try first | exact xfC | exact bff hb (by assumption) | exact bff (by assumption) hb)) | (with_reducible refine Both.mk ?_ ?_) | ((with_reducible refine And.intro ?_ ?_); focus exact xoC) | ((with_reducible refine Or.inl ⟨?_, ?_, ?_⟩); (focus rfl); focus exact xaC) | ((with_reducible refine xwB ?_ ?_); focus exact xaC) | ((with_reducible refine xwC ?_ ?_); focus exact xaC) | ((with_reducible refine xwD ?_ ?_); focus exact xaC) | ((with_reducible refine xwE ?_ ?_); focus exact xaC) | (with_reducible intro hc; (try simp only [capsP, and_true] at hc); (try exact xfC)) | ((fail_if_success (with_reducible first | refine xgon ?_ | intro _)); (conv => whnf); (fail_if_success (fail_if_success (with_reducible first | refine xstp ?_ | refine Both.mk ?_ ?_ | refine xgon ?_ | intro _)))))
  have h200 : (O.take 200).length = min 200 O.length := List.length_take
  refine LoopK.mk' {p : Nat × Pg × Nt × List Arv × (Nat → Nat) × Nat // p.1 ≤ (O.take 200).length ∧ Rl p.2.1 p.2.2.1 ∧ XB p.2.2.1 ∧ p.2.2.1.cnt = p.2.2.2.1.length ∧ p.2.2.2.1.length ≤ p.1 ∧ sentF ((O.take 200).drop p.1) p.2.2.1 p.2.2.2.1 = sentF (O.take 200) X []}
    (fun ⟨(i, N, X, L, cs, c1), _⟩ => ⟨[(0, .c (.p 0 0 0)), (1, .c (.sl 4 0 5 0 O.length cO)), (6, .c (.sl 7 0 5 0 L.length c1)), (7, .c (.i .i64 (i : Nat)))],
      [.one (pgC2 N c 5 1), .one (fltR true N.F c), .one .no, .one .no, .one (opsR O cO), .one (mapN 6 N.M N.D cs N.ck), arrs N.D cs, .one (arvP L c1)]⟩) (fun q => (O.take 200).length - q.1.1)
    ⟨⟨(0, N, X, [], cs, 0), Nat.zero_le _, hr, hx, h0, Nat.le_refl _, rfl⟩, [0, 1, 2, 3, 4, 2, 3, 99], ?_⟩ ?_
  · (repeat' first | refine And.intro ?_ ?_ | exact xeC | fail)
    all_goals first | (first | exact fun x => lsG_le | exact fun x => lsG_bel | exact fun x => lsG_belR) | (intro i hi; exact absurd hi (Nat.not_lt_zero i))
  rintro ⟨⟨i, N, X', L, cs, c1⟩, hi, hr, hx, hcn, hLi, hs⟩
  simp only at hi hr hx hcn hLi hs
  repeat' (first | (fail_if_success (with_reducible refine xstp ?_)); first | ((with_reducible refine And.intro (fun (hb : _ = true) => ?_) (fun (hb : _ = false) => ?_)) <;> replace hb := xnC hb <;> (try first | exact xfC | exact bff hb (by assumption) | exact bff (by assumption) hb)) | (with_reducible refine Both.mk ?_ ?_) | ((with_reducible refine And.intro ?_ ?_); focus exact xoC) | ((with_reducible refine Or.inl ⟨?_, ?_, ?_⟩); (focus rfl); focus exact xaC) | ((with_reducible refine xwB ?_ ?_); focus exact xaC) | ((with_reducible refine xwC ?_ ?_); focus exact xaC) | ((with_reducible refine xwD ?_ ?_); focus exact xaC) | ((with_reducible refine xwE ?_ ?_); focus exact xaC) | (with_reducible intro hc; (try simp only [capsP, and_true] at hc); (try exact xfC)) | ((fail_if_success (with_reducible first | refine xgon ?_ | intro _)); (conv => whnf); (fail_if_success (fail_if_success (with_reducible first | refine xstp ?_ | refine Both.mk ?_ ?_ | refine xgon ?_ | intro _)))))
  · have hlt : i < O.length := by omega
    have hlt2 : i < (O.take 200).length := by omega
    have hd := drop_consG (O.take 200) hlt2
    have hg : (O.take 200).getD i default = O.getD i default := by
      rw [getD_at hlt2, getD_at hlt, List.getElem_take]
    rw [hd, hg, sentF] at hs
    have e1 : 0 + ((i : Nat) : Int).toNat = i := by omega
    rw [e1]
    refine cH14aM1 (σ := [.whole 0, .whole 1, .whole 5, .whole 6]) (nl := []) (cSend3 hr hx (by omega) c cs (O.getD i default).at_ (O.getD i default).fr (O.getD i default).to (O.getD i default).d) ?_ (hle := by (repeat' first | refine And.intro ?_ ?_ | exact xeC | fail) <;> (first | exact fun x => lsG_le | exact fun x => lsG_bel | exact fun x => lsG_belR))
    rintro v h' ⟨N', cs', hr', rfl, rfl⟩ hcaps
    refine rH14aM0 ?_
    repeat' (first | (fail_if_success (with_reducible refine xstp ?_)); first | ((with_reducible refine And.intro (fun (hb : _ = true) => ?_) (fun (hb : _ = false) => ?_)) <;> replace hb := xnC hb <;> (try first | exact xfC | exact bff hb (by assumption) | exact bff (by assumption) hb)) | (with_reducible refine Both.mk ?_ ?_) | ((with_reducible refine And.intro ?_ ?_); focus exact xoC) | ((with_reducible refine Or.inl ⟨?_, ?_, ?_⟩); (focus rfl); focus exact xaC) | ((with_reducible refine xwB ?_ ?_); focus exact xaC) | ((with_reducible refine xwC ?_ ?_); focus exact xaC) | ((with_reducible refine xwD ?_ ?_); focus exact xaC) | ((with_reducible refine xwE ?_ ?_); focus exact xaC) | (with_reducible intro hc; (try simp only [capsP, and_true] at hc); (try exact xfC)) | ((fail_if_success (with_reducible first | refine xgon ?_ | intro _)); (conv => whnf); (fail_if_success (fail_if_success (with_reducible first | refine xstp ?_ | refine Both.mk ?_ ?_ | refine xgon ?_ | intro _)))))
    · rw [if_neg hb] at hs
      have hS : snd X' (O.getD i default).at_ (O.getD i default).fr (O.getD i default).to (O.getD i default).d = X' := if_neg hb
      rw [hS] at hr'
      refine ⟨⟨(i + 1, N', X', L, cs', c1), by simp only; omega, hr', hx, hcn, by simp only; omega, hs⟩, [0, 1, 2, 3, 4, 5, 9, 7], by simp only; omega, ?_⟩
      (repeat' first | refine And.intro ?_ ?_ | exact xeC | fail)
      all_goals (first | exact fun x => lsG_le | exact fun x => lsG_bel | exact fun x => lsG_belR)
    · rename_i hb0 _ c2
      rw [if_pos hb0] at hs
      have hcn2 := snd_cnt X' (O.getD i default).at_ (O.getD i default).fr (O.getD i default).to (O.getD i default).d
      rw [if_pos hb0] at hcn2
      refine ⟨⟨(i + 1, N', snd X' (O.getD i default).at_ (O.getD i default).fr (O.getD i default).to (O.getD i default).d, L ++ [⟨(O.getD i default).at_, (O.getD i default).fr, (O.getD i default).to, X'.cnt + 1, 0, (O.getD i default).d⟩], cs', c2), by simp only; omega, hr', hx.snd _ _ _ _, by rw [List.length_append, List.length_singleton]; simp only; omega, by rw [List.length_append, List.length_singleton]; simp only; omega, hs⟩, [0, 1, 2, 3, 4, 5, 9, 11], by simp only; omega, ?_⟩
      (repeat' first | refine And.intro ?_ ?_ | exact xeC | fail)
      all_goals first
        | (first | exact fun x => lsG_le | exact fun x => lsG_bel | exact fun x => lsG_belR)
        | omega
        | exact Nat.le_of_eq (by simp)
        | (simp; done)
        | (intro q hq; refine app_rowG encA _ _ _ ?_ q hq; rw [if_pos hb0]; rfl)
        | skip
  all_goals (
    have hil : i = (O.take 200).length := by omega
    rw [hil, List.drop_length, sentF] at hs
    refine FinK.mk ⟨[0, 1, 2, 3, 4, 5, 6, 7], _, _, ⟨N, X', L, cs, c1, hs.symm, hr, hx, hcn, by omega, rfl, rfl⟩, ?_⟩
    (repeat' first | refine And.intro ?_ ?_ | exact xeC | fail)
    all_goals (first | exact fun x => lsG_le | exact fun x => lsG_bel | exact fun x => lsG_belR))
end Go.Proofs.Ytnjakmpddghhjaa

namespace Go.Proofs.Ytnjakmpddghhjaa
open Go.X
set_option linter.unusedSimpArgs false
set_option linter.unusedVariables false
theorem insA_end {P : List Arv} {a : Arv} (h : ∀ p ∈ P, ltA p a) : insA P a = P ++ [a] := by
  have hp : posA P a = P.length := by
    unfold posA
    cases hl : P.length with
    | zero => rfl
    | succ k =>
      rw [posN, if_pos]
      have hk : k < P.length := by omega
      rw [getD_at hk]
      exact h _ (List.getElem_mem _)
  unfold insA insI
  rw [hp, List.take_length, List.drop_length]
abbrev nilF : Ck := fltR true [] 0
def shA (lat : Int) (a : Arv) : Arv := { a with at_ := a.at_ + lat }
theorem sent_all : ∀ (O : List Opn) {X X' : Nt} {L L' : List Arv}, sentF O X L = (X', L') → X.F = [] → X.P = L.map (shA X.lat) → (∀ a ∈ L, a.at_ ≤ X.last ∧ (0 ≤ a.at_ ∧ a.at_ ≤ 1099511627776) ∧ a.no ≤ X.cnt) →
    X'.P = L'.map (shA X.lat) ∧ X'.lat = X.lat ∧ ∀ a ∈ L', 0 ≤ a.at_ ∧ a.at_ ≤ 1099511627776
  | [], X, X', L, L', h, _, hP, hL => by
    rw [sentF] at h
    obtain ⟨rfl, rfl⟩ := Prod.mk.inj h
    exact ⟨hP, rfl, fun a ha => (hL a ha).2.1⟩
  | o :: O, X, X', L, L', h, hF, hP, hL => by
    rw [sentF] at h
    by_cases h0 : sndE X o.at_ o.fr o.to o.d = 0
    · rw [if_pos h0] at h
      have hok : okS X o.at_ o.fr o.to := by
        by_cases hk : okS X o.at_ o.fr o.to
        · exact hk
        · unfold sndE at h0
          rw [if_pos hk] at h0
          cases h0
      have hlast : X.last ≤ o.at_ := by
        unfold sndE at h0
        by_cases h1 : 4000 < o.d.size
        · rw [if_neg (not_not_intro hok), if_pos h1] at h0; cases h0
        · by_cases h2 : o.at_ < X.last
          · rw [if_neg (not_not_intro hok), if_neg h1, if_pos h2] at h0; cases h0
          · omega
      have hS : snd X o.at_ o.fr o.to o.d = { X with P := sndP X o.at_ o.fr o.to o.d, cnt := X.cnt + 1, last := o.at_ } := if_pos h0
      have hP2 : sndP X o.at_ o.fr o.to o.d = X.P ++ [⟨o.at_ + X.lat, o.fr, o.to, X.cnt + 1, 0, o.d⟩] := by
        unfold sndP
        rw [hF, scn]
        simp only
        rw [adds, insA_end]
        intro p hp
        rw [hP] at hp
        obtain ⟨a, ha, rfl⟩ := List.mem_map.1 hp
        have := hL a ha
        unfold ltA shA
        simp only
        omega
      rw [hS] at h
      have := sent_all O h hF (by
        show sndP X o.at_ o.fr o.to o.d = _
        rw [hP2, hP, List.map_append]
        rfl) (fun a ha => by
        show a.at_ ≤ o.at_ ∧ (0 ≤ a.at_ ∧ a.at_ ≤ 1099511627776) ∧ a.no ≤ X.cnt + 1
        rcases List.mem_append.1 ha with ha | ha
        · have := hL a ha; omega
        · rw [List.mem_singleton.1 ha]
          have := hok.2
          simp only
          omega)
      exact this
    · rw [if_neg h0] at h
      exact sent_all O h hF hP hL
theorem rH14aN0 {σ : List Sg} {H h' : List Fam} {v : T} {K : T → List Fam → Prop} {H' : List Fam} {v' : T} {N : Nat} (hk : K v' H') (hN : H.length = N := by (try simp only [↓List.length_cons, ↓List.length_nil, Nat.reduceAdd]) <;> rfl) (h : givesF σ N H σ h' = some H' := by (try simp (maxSteps := 1000000) only [givesF, setF, updF, Fam.zeroth, Fam.rk, Ck.rk, C.rk, E.rk, T.rk, key, List.map_cons, List.map_nil, List.cons_append, List.nil_append, List.length_cons, List.length_nil, Option.map_some, Option.bind_some, Nat.reduceAdd, Nat.zero_add, Nat.add_zero, Nat.add_sub_cancel_left, Int.toNat_natCast, reps, List.all_cons, List.all_nil, C.flat, List.append_eq, Bool.not_true, Bool.and_true, Bool.or_false, Bool.or_self, Bool.not_false, List.append_nil, Bool.and_self, ↓lsG_rk, encF]) <;> rfl) (hv : v.rk σ N = v' := by (try simp only [givesF, setF, updF, Fam.zeroth, Fam.rk, Ck.rk, C.rk, E.rk, T.rk, key, List.map_cons, List.map_nil, List.cons_append, List.nil_append, List.length_cons, List.length_nil, Option.map_some, Option.bind_some, Nat.reduceAdd, Nat.zero_add, Nat.add_zero, Nat.add_sub_cancel_left, Int.toNat_natCast, reps, List.all_cons, List.all_nil, C.flat, List.append_eq, Bool.not_true, Bool.and_true, Bool.or_false, Bool.or_self, Bool.not_false, List.append_nil, Bool.and_self, ↓lsG_rk, encF]) <;> rfl) : RetG σ H h' v K := ret_mk3 hN h hv hk
theorem rH14aN1 {σ : List Sg} {H h' : List Fam} {v : T} {K : T → List Fam → Prop} {H' : List Fam} {v' : T} {N : Nat} (hk : K v' H') (hN : H.length = N := by (try simp only [↓List.length_cons, ↓List.length_nil, Nat.reduceAdd]) <;> rfl) (h : givesF σ N H σ h' = some H' := by (try simp (maxSteps := 1000000) only [givesF, setF, updF, Fam.zeroth, Fam.rk, Ck.rk, C.rk, E.rk, T.rk, key, List.map_cons, List.map_nil, List.cons_append, List.nil_append, List.length_cons, List.length_nil, Option.map_some, Option.bind_some, Nat.reduceAdd, Nat.zero_add, Nat.add_zero, Nat.add_sub_cancel_left, Int.toNat_natCast, reps, List.all_cons, List.all_nil, C.flat, List.append_eq, Bool.not_true, Bool.and_true, Bool.or_false, Bool.or_self, Bool.not_false, List.append_nil, Bool.and_self, ↓lsG_rk]) <;> rfl) (hv : v.rk σ N = v' := by (try simp only [givesF, setF, updF, Fam.zeroth, Fam.rk, Ck.rk, C.rk, E.rk, T.rk, key, List.map_cons, List.map_nil, List.cons_append, List.nil_append, List.length_cons, List.length_nil, Option.map_some, Option.bind_some, Nat.reduceAdd, Nat.zero_add, Nat.add_zero, Nat.add_sub_cancel_left, Int.toNat_natCast, reps, List.all_cons, List.all_nil, C.flat, List.append_eq, Bool.not_true, Bool.and_true, Bool.or_false, Bool.or_self, Bool.not_false, List.append_nil, Bool.and_self, ↓lsG_rk]) <;> rfl) : RetG σ H h' v K := ret_mk3 hN h hv hk
theorem cH14aN2 {P : Program} {F : Nat} {args : List T} {H : List Fam} {K : T → List Fam → Prop} {σ : List Sg} {nl : List Fam} {args0 : List T} {h0 : List Fam} {Q : T → List Fam → Prop} {H2 H1 : List Fam} {N n : Nat} (hc : Ctr P F args0 h0 Q) (hk : ∀ v h', Q v h' → capsP h' → RetG σ H2 h' v K) (hap : apart σ = true := by rfl) (hnl : nl.all nilB = true := by rfl) (h1 : H ++ nl = H1 := by first | exact List.append_nil _ | ((try simp only [List.cons_append, List.nil_append]) <;> rfl)) (hN : H1.length = N := by (try simp only [↓List.length_cons, ↓List.length_nil, Nat.reduceAdd]) <;> rfl) (hn : H.length = n := by (try simp only [↓List.length_cons, ↓List.length_nil, Nat.reduceAdd]) <;> rfl) (hH : givesF σ N H1 σ h0 = some H2 := by (try simp (maxSteps := 1000000) only [givesF, setF, updF, Fam.zeroth, Fam.rk, Ck.rk, C.rk, E.rk, T.rk, key, List.map_cons, List.map_nil, List.cons_append, List.nil_append, List.length_cons, List.length_nil, Option.map_some, Option.bind_some, Nat.reduceAdd, Nat.zero_add, Nat.add_zero, Nat.add_sub_cancel_left, Int.toNat_natCast, reps, List.all_cons, List.all_nil, C.flat, List.append_eq, Bool.not_true, Bool.and_true, Bool.or_false, Bool.or_self, Bool.not_false, List.append_nil, Bool.and_self, ↓lsG_rk]) <;> rfl) (hle : leS n H1 σ N σ h0 (belsK N (h0.map (Fam.rk σ N)) (argsK n args (args0.map (T.rk σ N)) True)) := by repeat' first | refine And.intro ?_ ?_ | exact xeC | fail) : CallK P F args H K := CallK.mk3 hc hap hnl h1 hN hn hH hle hk
set_option maxRecDepth 20000 in
set_option maxHeartbeats 4000000 in
theorem cdelivers (m lat : Int) (O : List Opn) (cO : Nat) (hO : O.length ≤ 9223372036854775807) :
    Ctr Try.prog 3 [.c (.i .i64 m), .c (.i .i64 lat), .c (.sl 0 0 5 0 O.length cO)] [.one (opsR O cO)] fun v _ => v = .c .tt := by
  refine Ctr.mk' tbv mixed Try.func3 rfl rfl rfl (fun _ _ => by kernel_rfl) (by kernel_rfl) (by rfl) (by rfl) (by (repeat' first | refine And.intro ?_ ?_ | exact xeC | fail)) ?_
  repeat' (first | (fail_if_success (with_reducible refine xstp ?_)); first | ((with_reducible refine And.intro (fun (hb : _ = true) => ?_) (fun (hb : _ = false) => ?_)) <;> replace hb := xnC hb <;> (try first | exact xfC | exact bff hb (by assumption) | exact bff (by assumption) hb)) | (with_reducible refine Both.mk ?_ ?_) | ((with_reducible refine And.intro ?_ ?_); focus exact xoC) | ((with_reducible refine Or.inl ⟨?_, ?_, ?_⟩); (focus rfl); focus exact xaC) | ((with_reducible refine xwB ?_ ?_); focus exact xaC) | ((with_reducible refine xwC ?_ ?_); focus exact xaC) | ((with_reducible refine xwD ?_ ?_); focus exact xaC) | ((with_reducible refine xwE ?_ ?_); focus exact xaC) | (with_reducible intro hc; (try simp only [capsP, and_true] at hc); (try exact xfC)) | ((fail_if_success (with_reducible first | refine xgon ?_ | intro _)); (conv => whnf); (fail_if_success (fail_if_success (with_reducible first | refine xstp ?_ | refine Both.mk ?_ ?_ | refine xgon ?_ | intro _)))))
  refine cH14aN2 (σ := [.whole 1]) (nl := [.one nilF]) (cNew m lat [] 0 true (by decide)) ?_
  rintro v h' (⟨h1, rfl, rfl⟩ | ⟨h1, c1, rfl, rfl⟩) hcaps
  · refine rH14aN0 ?_
    repeat' (first | (fail_if_success (with_reducible refine xstp ?_)); first | ((with_reducible refine And.intro (fun (hb : _ = true) => ?_) (fun (hb : _ = false) => ?_)) <;> replace hb := xnC hb <;> (try first | exact xfC | exact bff hb (by assumption) | exact bff (by assumption) hb)) | (with_reducible refine Both.mk ?_ ?_) | ((with_reducible refine And.intro ?_ ?_); focus exact xoC) | ((with_reducible refine Or.inl ⟨?_, ?_, ?_⟩); (focus rfl); focus exact xaC) | ((with_reducible refine xwB ?_ ?_); focus exact xaC) | ((with_reducible refine xwC ?_ ?_); focus exact xaC) | ((with_reducible refine xwD ?_ ?_); focus exact xaC) | ((with_reducible refine xwE ?_ ?_); focus exact xaC) | (with_reducible intro hc; (try simp only [capsP, and_true] at hc); (try exact xfC)) | ((fail_if_success (with_reducible first | refine xgon ?_ | intro _)); (conv => whnf); (fail_if_success (fail_if_success (with_reducible first | refine xstp ?_ | refine Both.mk ?_ ?_ | refine xgon ?_ | intro _)))))
    refine cH14aN2 (σ := []) (nl := []) (cawake) ?_
    rintro v h' ⟨rfl, rfl⟩ hcaps
    refine rH14aN1 ?_
    repeat' (first | (fail_if_success (with_reducible refine xstp ?_)); first | ((with_reducible refine And.intro (fun (hb : _ = true) => ?_) (fun (hb : _ = false) => ?_)) <;> replace hb := xnC hb <;> (try first | exact xfC | exact bff hb (by assumption) | exact bff (by assumption) hb)) | (with_reducible refine Both.mk ?_ ?_) | ((with_reducible refine And.intro ?_ ?_); focus exact xoC) | ((with_reducible refine Or.inl ⟨?_, ?_, ?_⟩); (focus rfl); focus exact xaC) | ((with_reducible refine xwB ?_ ?_); focus exact xaC) | ((with_reducible refine xwC ?_ ?_); focus exact xaC) | ((with_reducible refine xwD ?_ ?_); focus exact xaC) | ((with_reducible refine xwE ?_ ?_); focus exact xaC) | (with_reducible intro hc; (try simp only [capsP, and_true] at hc); (try exact xfC)) | ((fail_if_success (with_reducible first | refine xgon ?_ | intro _)); (conv => whnf); (fail_if_success (fail_if_success (with_reducible first | refine xstp ?_ | refine Both.mk ?_ ?_ | refine xgon ?_ | intro _)))))
    refine FinK.mk ⟨[0], _, [.one .no], rfl, ?_⟩
    (repeat' first | refine And.intro ?_ ?_ | exact xeC | fail)
  · refine rH14aN0 ?_
    repeat' (first | (fail_if_success (with_reducible refine xstp ?_)); first | ((with_reducible refine And.intro (fun (hb : _ = true) => ?_) (fun (hb : _ = false) => ?_)) <;> replace hb := xnC hb <;> (try first | exact xfC | exact bff hb (by assumption) | exact bff (by assumption) hb)) | (with_reducible refine Both.mk ?_ ?_) | ((with_reducible refine And.intro ?_ ?_); focus exact xoC) | ((with_reducible refine Or.inl ⟨?_, ?_, ?_⟩); (focus rfl); focus exact xaC) | ((with_reducible refine xwB ?_ ?_); focus exact xaC) | ((with_reducible refine xwC ?_ ?_); focus exact xaC) | ((with_reducible refine xwD ?_ ?_); focus exact xaC) | ((with_reducible refine xwE ?_ ?_); focus exact xaC) | (with_reducible intro hc; (try simp only [capsP, and_true] at hc); (try exact xfC)) | ((fail_if_success (with_reducible first | refine xgon ?_ | intro _)); (conv => whnf); (fail_if_success (fail_if_success (with_reducible first | refine xstp ?_ | refine Both.mk ?_ ?_ | refine xgon ?_ | intro _)))))
    refine cH14aN2 (σ := [.whole 2, .whole 3, .whole 4, .whole 5, .whole 0]) (nl := []) (csent (rl0 m lat []) (xb0 h1) rfl O c1 cO (fun _ => 0) hO) ?_ (hle := by (repeat' first | refine And.intro ?_ ?_ | exact xeC | fail) <;> (first | exact fun x => lsG_le | exact fun x => lsG_bel | exact fun x => lsG_belR))
    rintro v h' ⟨N, X, L, cs, c2, hs, hr, hx, hcn, hL2, rfl, rfl⟩ hcaps
    refine rH14aN1 ?_
    repeat' (first | (fail_if_success (with_reducible refine xstp ?_)); first | ((with_reducible refine And.intro (fun (hb : _ = true) => ?_) (fun (hb : _ = false) => ?_)) <;> replace hb := xnC hb <;> (try first | exact xfC | exact bff hb (by assumption) | exact bff (by assumption) hb)) | (with_reducible refine Both.mk ?_ ?_) | ((with_reducible refine And.intro ?_ ?_); focus exact xoC) | ((with_reducible refine Or.inl ⟨?_, ?_, ?_⟩); (focus rfl); focus exact xaC) | ((with_reducible refine xwB ?_ ?_); focus exact xaC) | ((with_reducible refine xwC ?_ ?_); focus exact xaC) | ((with_reducible refine xwD ?_ ?_); focus exact xaC) | ((with_reducible refine xwE ?_ ?_); focus exact xaC) | (with_reducible intro hc; (try simp only [capsP, and_true] at hc); (try exact xfC)) | ((fail_if_success (with_reducible first | refine xgon ?_ | intro _)); (conv => whnf); (fail_if_success (fail_if_success (with_reducible first | refine xstp ?_ | refine Both.mk ?_ ?_ | refine xgon ?_ | intro _)))))
    obtain ⟨hP, hlat, hat⟩ := sent_all (O.take 200) hs rfl rfl (fun a ha => absurd ha List.not_mem_nil)
    have hlm : (X0 m lat []).lat = lat := rfl
    rw [hlm] at hP hlat
    have hml := (newE_zero h1).1.2
    have hall : rcvP 1152921504606846976 X.P = L.map (shA lat) := by
      rw [hP]
      unfold rcvP
      rw [List.filter_eq_self]
      intro a ha
      obtain ⟨b, hb, rfl⟩ := List.mem_map.1 ha
      have := hat b hb
      refine decide_eq_true ?_
      unfold shA
      simp only
      omega
    have hlen : (L.map (shA lat)).length = L.length := List.length_map _
    refine cH14aN2 (σ := [.whole 2, .name 3, .whole 6, .whole 7]) (nl := []) (cRecv3 hr hx c1 cs 1152921504606846976) ?_ (hle := by (repeat' first | refine And.intro ?_ ?_ | exact xeC | fail) <;> (first | exact fun x => lsG_le | exact fun x => lsG_bel | exact fun x => lsG_belR))
    rw [hall]
    rintro v h' ⟨N', c3, hr', hF', rfl, rfl⟩ hcaps
    rw [hlen]
    refine rH14aN1 ?_
    repeat' (first | (fail_if_success (with_reducible refine xstp ?_)); first | ((with_reducible refine And.intro (fun (hb : _ = true) => ?_) (fun (hb : _ = false) => ?_)) <;> replace hb := xnC hb <;> (try first | exact xfC | exact bff hb (by assumption) | exact bff (by assumption) hb)) | (with_reducible refine Both.mk ?_ ?_) | ((with_reducible refine And.intro ?_ ?_); focus exact xoC) | ((with_reducible refine Or.inl ⟨?_, ?_, ?_⟩); (focus rfl); focus exact xaC) | ((with_reducible refine xwB ?_ ?_); focus exact xaC) | ((with_reducible refine xwC ?_ ?_); focus exact xaC) | ((with_reducible refine xwD ?_ ?_); focus exact xaC) | ((with_reducible refine xwE ?_ ?_); focus exact xaC) | (with_reducible intro hc; (try simp only [capsP, and_true] at hc); (try exact xfC)) | ((fail_if_success (with_reducible first | refine xgon ?_ | intro _)); (conv => whnf); (fail_if_success (fail_if_success (with_reducible first | refine xstp ?_ | refine Both.mk ?_ ?_ | refine xgon ?_ | intro _)))))
    refine cH14aN2 (σ := [.whole 2, .name 3, .name 6]) (nl := []) (cSent N' c1) ?_
    rw [hr'.sent, show (rcv X 1152921504606846976).cnt = L.length from hcn]
    rintro v h' ⟨rfl, rfl⟩ hcaps
    refine rH14aN1 ?_
    repeat' (first | (fail_if_success (with_reducible refine xstp ?_)); first | ((with_reducible refine And.intro (fun (hb : _ = true) => ?_) (fun (hb : _ = false) => ?_)) <;> replace hb := xnC hb <;> (try first | exact xfC | exact bff hb (by assumption) | exact bff (by assumption) hb)) | (with_reducible refine Both.mk ?_ ?_) | ((with_reducible refine And.intro ?_ ?_); focus exact xoC) | ((with_reducible refine Or.inl ⟨?_, ?_, ?_⟩); (focus rfl); focus exact xaC) | ((with_reducible refine xwB ?_ ?_); focus exact xaC) | ((with_reducible refine xwC ?_ ?_); focus exact xaC) | ((with_reducible refine xwD ?_ ?_); focus exact xaC) | ((with_reducible refine xwE ?_ ?_); focus exact xaC) | (with_reducible intro hc; (try simp only [capsP, and_true] at hc); (try exact xfC)) | ((fail_if_success (with_reducible first | refine xgon ?_ | intro _)); (conv => whnf); (fail_if_success (fail_if_success (with_reducible first | refine xstp ?_ | refine Both.mk ?_ ?_ | refine xgon ?_ | intro _)))))
    refine LoopK.mk' {i : Nat // i ≤ L.length}
      (fun ⟨i, _⟩ => ⟨[(1, .c (.i .i64 lat)), (9, .c (.sl 1 0 5 0 L.length c2)), (11, .c (.sl 2 0 5 0 L.length c3)), (12, .c (.i .i64 (i : Nat)))],
        [.one .no, .one (arvP L c2), .one (.row true false 34 5 L.length c3 (rowOf encA (L.map (shA lat))))]⟩) (fun k => L.length - k.1)
      ⟨⟨0, Nat.zero_le _⟩, [0, 8, 9], ?_⟩ ?_
    · (repeat' first | refine And.intro ?_ ?_ | exact xeC | fail)
      all_goals first | exact Nat.le_of_eq hlen.symm | exact Nat.le_of_eq hlen | skip
    rintro ⟨i, hi⟩
    have hg : i < L.length → (L.map (shA lat)).getD i default = shA lat (L.getD i default) := fun h => by
      rw [getD_at (by rw [hlen]; exact h), List.getElem_map, getD_at h]
    have hga : i < L.length → 0 ≤ (L.getD i default).at_ ∧ (L.getD i default).at_ ≤ 1099511627776 := fun h => hat _ (by rw [getD_at h]; exact List.getElem_mem _)
    repeat' (first | (fail_if_success (with_reducible refine xstp ?_)); first | ((with_reducible refine And.intro (fun (hb : _ = true) => ?_) (fun (hb : _ = false) => ?_)) <;> replace hb := xnC hb <;> (try first | exact xfC | exact bff hb (by assumption) | exact bff (by assumption) hb)) | (with_reducible refine Both.mk ?_ ?_) | ((with_reducible refine And.intro ?_ ?_); focus exact xoC) | ((with_reducible refine Or.inl ⟨?_, ?_, ?_⟩); (focus rfl); focus exact xaC) | ((with_reducible refine xwB ?_ ?_); focus exact xaC) | ((with_reducible refine xwC ?_ ?_); focus exact xaC) | ((with_reducible refine xwD ?_ ?_); focus exact xaC) | ((with_reducible refine xwE ?_ ?_); focus exact xaC) | (with_reducible intro hc; (try simp only [capsP, and_true] at hc); (try exact xfC)) | ((fail_if_success (with_reducible first | refine xgon ?_ | intro _)); (conv => whnf); (fail_if_success (fail_if_success (with_reducible first | refine xstp ?_ | refine Both.mk ?_ ?_ | refine xgon ?_ | intro _)))))
    · exfalso
      have hg := hg (by omega)
      rw [hg] at hb
      rcases hb with h | h | h | h | h <;> exact h rfl
    · refine ⟨⟨i + 1, by omega⟩, [0, 1, 2], by simp only; omega, ?_⟩
      (repeat' first | refine And.intro ?_ ?_ | exact xeC | fail)
    · skip
      refine cH14aN2 (σ := []) (nl := []) (cawake) ?_
      rintro v h' ⟨rfl, rfl⟩ hcaps
      refine rH14aN1 ?_
      repeat' (first | (fail_if_success (with_reducible refine xstp ?_)); first | ((with_reducible refine And.intro (fun (hb : _ = true) => ?_) (fun (hb : _ = false) => ?_)) <;> replace hb := xnC hb <;> (try first | exact xfC | exact bff hb (by assumption) | exact bff (by assumption) hb)) | (with_reducible refine Both.mk ?_ ?_) | ((with_reducible refine And.intro ?_ ?_); focus exact xoC) | ((with_reducible refine Or.inl ⟨?_, ?_, ?_⟩); (focus rfl); focus exact xaC) | ((with_reducible refine xwB ?_ ?_); focus exact xaC) | ((with_reducible refine xwC ?_ ?_); focus exact xaC) | ((with_reducible refine xwD ?_ ?_); focus exact xaC) | ((with_reducible refine xwE ?_ ?_); focus exact xaC) | (with_reducible intro hc; (try simp only [capsP, and_true] at hc); (try exact xfC)) | ((fail_if_success (with_reducible first | refine xgon ?_ | intro _)); (conv => whnf); (fail_if_success (fail_if_success (with_reducible first | refine xstp ?_ | refine Both.mk ?_ ?_ | refine xgon ?_ | intro _)))))
      refine FinK.mk ⟨[0], _, [.one .no], rfl, ?_⟩
      (repeat' first | refine And.intro ?_ ?_ | exact xeC | fail)
end Go.Proofs.Ytnjakmpddghhjaa

namespace Go.Proofs.Ytnjakmpddghhjaa
open Go.X Go.RowKit
set_option linter.unusedVariables false
theorem one_read {β : Nm} {W : World} {ck : Ck} (h : ck.holds β W (β 0 0)) (ho : ck.owned = false) : Fits β [.one ck] W ∧ ∀ f x, (Go.X.get [.one ck] f x).owned = false := by
  have hno := get_ones_own (h := [ck]) (by intro q hq; rw [List.mem_singleton.1 hq]; exact ho)
  exact ⟨fits_read (get_ones (h := [ck]) (fun f q hf => by
    match f, hf with
    | 0, hf => cases hf; exact h
    | f + 1, hf => simp at hf)) hno, hno⟩
theorem two_read {β : Nm} {W : World} {ck ck' : Ck} (h : ck.holds β W (β 0 0)) (ho : ck.owned = false) (h' : ck'.holds β W (β 1 0)) (ho' : ck'.owned = false) : Fits β [.one ck, .one ck'] W ∧ ∀ f x, (Go.X.get [.one ck, .one ck'] f x).owned = false := by
  have hno := get_ones_own (h := [ck, ck']) (by
    intro q hq
    rcases List.mem_cons.1 hq with rfl | hq
    · exact ho
    · rw [List.mem_singleton.1 hq]; exact ho')
  exact ⟨fits_read (get_ones (h := [ck, ck']) (fun f q hf => by
    match f, hf with
    | 0, hf => cases hf; exact h
    | 1, hf => cases hf; exact h'
    | f + 2, hf => simp at hf)) hno, hno⟩
abbrev kFl : List K := [.i .i64, .i .i64, .i .i64, .i .i64, .i .i64, .i .i64]
abbrev kOp : List K := [.i .u8, .i .i64, .i .i64, .i .i64, .s]
abbrev kSu : List K := [.i .i64, .i .i64, .sl kFl, .sl kOp]
theorem ft_Fl {l : List C} (h : FT kFl l) : ∃ x : Flt, l = encF x ∧ True := by
  obtain ⟨a, _, rfl, _, h1⟩ := FT_i h
  obtain ⟨b, _, rfl, _, h2⟩ := FT_i h1
  obtain ⟨c, _, rfl, _, h3⟩ := FT_i h2
  obtain ⟨d, _, rfl, _, h4⟩ := FT_i h3
  obtain ⟨e, _, rfl, _, h5⟩ := FT_i h4
  obtain ⟨g, _, rfl, _, h6⟩ := FT_i h5
  obtain rfl := FT_nil h6
  exact ⟨⟨a, b, c, d, e, g⟩, rfl, trivial⟩
theorem ft_Op {l : List C} (h : FT kOp l) : ∃ x : Opn, l = encO x ∧ (0 ≤ x.kd ∧ x.kd ≤ 255) := by
  obtain ⟨a, _, rfl, ha, h1⟩ := FT_i h
  obtain ⟨b, _, rfl, _, h2⟩ := FT_i h1
  obtain ⟨c, _, rfl, _, h3⟩ := FT_i h2
  obtain ⟨d, _, rfl, _, h4⟩ := FT_i h3
  obtain ⟨s, _, rfl, _, h5⟩ := FT_s h4
  obtain rfl := FT_nil h5
  exact ⟨⟨a, b, c, d, s⟩, rfl, ha⟩
def nmS (B : Nat → Nat × Nat × Fl) : Nm := fun f _ => if f = 0 then B 2 else if f = 1 then B 3 else B (f - 100)
def fS (y : Nat) : Nat := if y = 2 then 0 else if y = 3 then 1 else y + 100
theorem nmS_at (B : Nat → Nat × Nat × Fl) (y : Nat) : nmS B (fS y) 0 = B y := by
  unfold nmS fS
  by_cases h : y = 2
  · rw [if_pos h, if_pos rfl, h]
  · by_cases h' : y = 3
    · rw [if_neg h, if_pos h', if_neg (by omega), if_pos rfl, h']
    · rw [if_neg h, if_neg h', if_neg (by omega), if_neg (by omega), Nat.add_sub_cancel]
/-- A setup among the arguments. -/
theorem setup_view {W : World} {vs : Array Value} (k : VKs W kSu (Value.agg vs).cells.toList) :
    ∃ (β : Nm) (m lat : Int) (F : List Flt) (O : List Opn) (cF cO : Nat), renL β (encSu m lat F.length cF O.length cO) = vs ∧ (∀ e : Nat, (fltR false F cF).holds β W (β 0 0)) ∧ (∀ e : Nat, (opsR O cO).holds β W (β 1 0)) ∧ F.length ≤ maxLen ∧ O.length ≤ maxLen ∧ (∀ o ∈ O, 0 ≤ o.kd ∧ o.kd ≤ 255) := by
  obtain ⟨B, D, hD, hr, _⟩ := cells_view 0 (ks := kSu) (by rfl) k
  obtain ⟨m, _, rfl, _, h1⟩ := FD_i hD
  obtain ⟨lat, _, rfl, _, h2⟩ := FD_i h1
  obtain ⟨nF, cF, RF, _, rfl, _, hnF, hhF, hgF, h3⟩ := FD_n h2
  obtain ⟨nO, cO, RO, _, rfl, _, hnO, hhO, hgO, h4⟩ := FD_n h3
  obtain rfl := FD_nil h4
  obtain ⟨F, hlF, hgeF, _⟩ := list_of encF (Pr := fun _ => True) (fun i hi => ft_Fl (hgF i hi))
  obtain ⟨O, hlO, hgeO, hpO⟩ := list_of encO (Pr := fun x => 0 ≤ x.kd ∧ x.kd ≤ 255) (fun i hi => ft_Op (hgO i hi))
  subst hlF
  subst hlO
  have hr1 := hr (nmS B) fS 0 (fun y _ _ => nmS_at B y)
  refine ⟨nmS B, m, lat, F, O, cF, cO, ?_, fun e => holds_row_congr (hhF _ _) hgeF, fun e => holds_row_congr (hhO _ _) hgeO, hnF, hnO, hpO⟩
  unfold renL
  have h2 : (Value.agg vs).cells.toList = vs.toList := rfl
  rw [h2] at hr1
  exact (congrArg List.toArray hr1).trans (by simp)
theorem walk_NetworkPlays (W : World) (vs : Array Value) (k0 : VKs W kSu (Value.agg vs).cells.toList) :
    Calls Try.prog 7 #[.agg vs] W fun e W' => e = .returned (.bool true) ∧ Below W.heap.size W W' := by
  obtain ⟨β, m, lat, F, O, cF, cO, hv, hF, hO, hnF, hnO, hp⟩ := setup_view k0
  have hm : maxLen ≤ 9223372036854775807 := by unfold maxLen; omega
  obtain ⟨hf, hno⟩ := two_read (hF 0) rfl (hO 0) rfl
  have := glue (cplays m lat F O cF cO (by omega) hp) hf hno
  simp only [List.map_cons, List.map_nil, T.ren, hv] at this
  exact this
theorem walk_NetworkChecks (W : World) (vs : Array Value) (k0 : VKs W kSu (Value.agg vs).cells.toList) :
    Calls Try.prog 4 #[.agg vs] W fun e W' => e = .returned (.bool true) ∧ Below W.heap.size W W' := by
  obtain ⟨β, m, lat, F, O, cF, cO, hv, hF, hO, hnF, hnO, hp⟩ := setup_view k0
  have hm : maxLen ≤ 9223372036854775807 := by unfold maxLen; omega
  obtain ⟨hf, hno⟩ := two_read (hF 0) rfl (ck' := .no) trivial rfl
  have := glue (cchecks m lat F cF O.length cO (by omega)) hf hno
  simp only [List.map_cons, List.map_nil, T.ren, hv] at this
  exact this
theorem walk_NetworkDelivers (W : World) (a0 : Int) (w0 : (Lit.int .i64 a0).wf = true) (a1 : Int) (w1 : (Lit.int .i64 a1).wf = true) (v2 : Value) (k2 : VK W (.sl kOp) v2) (e2 : ∀ a n c, v2 = .slice (some a) n c → a.spot = none) :
    Calls Try.prog 3 #[.int .i64 a0, .int .i64 a1, v2] W fun e W' => e = .returned (.bool true) ∧ Below W.heap.size W W' := by
  obtain ⟨A, n, c, g, hv, hh, hn, hc, hnc, hg⟩ := row_view (by rfl) k2 e2
  obtain ⟨l, hl, hge, hp⟩ := list_of encO (Pr := fun x => 0 ≤ x.kd ∧ x.kd ≤ 255) (fun i hi => ft_Op (hg i hi))
  subst hl
  have hm : maxLen ≤ 9223372036854775807 := by unfold maxLen; omega
  obtain ⟨hf, hno⟩ := one_read (β := nmL [A]) (W := W) (ck := opsR l c) (holds_row_congr (hh _ _) hge) rfl
  have hv' : C.ren (nmL [A]) (C.sl 0 0 5 0 l.length c) = v2 := hv (nmL [A]) 0 0 rfl
  have := glue (cdelivers a0 a1 l c (by omega)) hf hno
  simp only [List.map_cons, List.map_nil, T.ren, hv', show C.ren (nmL [A]) (.i .i64 a0) = .int .i64 a0 from rfl, show C.ren (nmL [A]) (.i .i64 a1) = .int .i64 a1 from rfl] at this
  exact this
end Go.Proofs.Ytnjakmpddghhjaa
