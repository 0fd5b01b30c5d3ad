/- Part 3 of the texts that a walk of this program rests on: an abstract machine, its soundness, contracts of functions. No statement of the seat is proved in this file. -/
import Derived.Test.YtkjkbpnhocjenaaVF2
import Derived.Deep.LoopGhost
import Derived.ProofKit
import Derived.SliceStrings
import Derived.SizedLaws
import Derived.Carry
import Derived.OpenShut
import Derived.Sort.Row
import Derived.Sort.Grow
import Derived.Test.YtkjkbpnhocjenaaProg
import Derived.Laws.BitsAllLaws
import Derived.Laws.DeepNot64
import Derived.RowKit
import Derived.WalkKit
import Derived.Laws.RangeAny
import Derived.Laws.RangeString
set_option linter.constructorNameAsVariable false
set_option linter.unusedVariables false
namespace Go.X
variable {cx : Cx} {β : Nm} {s : S} {a : Act} {w : World} {P : Program} {tb : Tb}
theorem bit_eq (L i : Nat) : bit L i = L.testBit i := by
  unfold bit Nat.testBit
  have e : Nat.land (Nat.shiftRight L i) 1 = 1 &&& (L >>> i) := Nat.and_comm (L >>> i) 1
  rw [e]
  cases h : Nat.beq (1 &&& (L >>> i)) 0 with
  | true => rw [Nat.eq_of_beq_eq_true h]; rfl
  | false => exact (bne_iff_ne.2 (Nat.ne_of_beq_eq_false h)).symm
theorem preds_bit (o : Oper) (k : Nat) : (preds o).testBit k = true ↔ ∃ e ∈ o.after, Region.binds .any e = true ∧ e.on = k := by
  unfold preds
  have key : ∀ (l : List Edge) (m : Nat), (l.foldl (fun m e => match Region.binds .any e with | true => Nat.lor m (Nat.pow 2 e.on) | false => m) m).testBit k = true ↔ (m.testBit k = true ∨ ∃ e ∈ l, Region.binds .any e = true ∧ e.on = k) := by
    intro l
    induction l with
    | nil => intro m; simp
    | cons e l ih =>
      intro m
      rw [List.foldl_cons, ih]
      cases hb : Region.binds .any e with
      | true =>
        simp only
        have : (Nat.lor m (Nat.pow 2 e.on)).testBit k = (m.testBit k || decide (e.on = k)) := by
          show (m ||| 2 ^ e.on).testBit k = _
          rw [Nat.testBit_or, Nat.testBit_two_pow]
        rw [this]
        simp only [Bool.or_eq_true, decide_eq_true_eq, List.mem_cons, exists_eq_or_imp, hb, true_and]
        exact or_assoc
      | false =>
        simp only
        constructor
        · rintro (h | ⟨e', he', h'⟩)
          · exact .inl h
          · exact .inr ⟨e', by simp [he'], h'⟩
        · rintro (h | ⟨e', he', h'⟩)
          · exact .inl h
          · rcases List.mem_cons.1 he' with rfl | he'
            · rw [hb] at h'; exact absurd h'.1 (by simp)
            · exact .inr ⟨e', he', h'⟩
  refine (key _ 0).trans ?_
  simp
theorem land_sub (p L : Nat) : Nat.beq (Nat.land p L) p = true ↔ ∀ k, p.testBit k = true → L.testBit k = true := by
  constructor
  · intro h k hk
    have e : p &&& L = p := Nat.eq_of_beq_eq_true h
    rw [← e, Nat.testBit_and] at hk
    exact (Bool.and_eq_true_iff.1 hk).2
  · intro h
    have e : p &&& L = p := by
      apply Nat.eq_of_testBit_eq
      intro k
      rw [Nat.testBit_and]
      cases hp : p.testBit k with
      | false => rfl
      | true => rw [h k hp]; rfl
    show Nat.beq (p &&& L) p = true
    rw [e]
    exact Nat.beq_refl p
structure Lst (arr : Array Oper) (L : Nat) (l : Array Bool) : Prop where
  size : l.size = arr.size
  get : ∀ i, i < arr.size → l[i]? = some (L.testBit i)
  lt : ∀ k, L.testBit k = true → k < arr.size
theorem Lst.set {arr : Array Oper} {L : Nat} {l : Array Bool} (h : Lst arr L l) {i : Nat} (hi : i < arr.size) : Lst arr (Nat.lor L (Nat.pow 2 i)) (l.setIfInBounds i true) := by
  have e : ∀ k, (Nat.lor L (Nat.pow 2 i)).testBit k = (L.testBit k || decide (i = k)) := by
    intro k
    show (L ||| 2 ^ i).testBit k = _
    rw [Nat.testBit_or, Nat.testBit_two_pow]
  refine ⟨by simp [h.size], fun k hk => ?_, fun k hk => ?_⟩
  · rw [e, Array.getElem?_setIfInBounds]
    by_cases hik : i = k
    · subst hik; simp [h.size, hi]
    · simp [hik, h.get k hk]
  · rw [e] at hk
    rcases (Bool.or_eq_true _ _).mp hk with hk | hk
    · exact h.lt k hk
    · simp at hk; omega
theorem rdy_iff {arr : Array Oper} {L : Nat} {l : Array Bool} (h : Lst arr L l) {i : Nat} {o : Oper} (ho : arr[i]? = some o) : rdy L i o = true ↔ i ∈ Region.ready .any arr l := by
  have hi : i < arr.size := (Array.getElem?_eq_some_iff.1 ho).1
  have hg : l.getD i true = L.testBit i := by
    have := h.get i hi
    rw [Array.getD_eq_getD_getElem?, this]; rfl
  have hgf : ∀ k, l.getD k false = L.testBit k := by
    intro k
    rw [Array.getD_eq_getD_getElem?]
    by_cases hk : k < arr.size
    · rw [h.get k hk]; rfl
    · rw [Array.getElem?_eq_none (by rw [h.size]; omega)]
      cases hb : L.testBit k with
      | false => rfl
      | true => exact absurd (h.lt k hb) hk
  rw [mem_ready]
  unfold rdy
  rw [Bool.and_eq_true, land_sub, bit_eq]
  constructor
  · rintro ⟨h1, h2⟩
    refine ⟨by rw [hg]; simpa using h1, o, ho, fun e he hb => ?_⟩
    rw [hgf]
    exact h2 _ ((preds_bit o _).2 ⟨e, he, hb, rfl⟩)
  · rintro ⟨h1, o', ho', h2⟩
    rw [ho] at ho'
    cases ho'
    refine ⟨by rw [hg] at h1; simp [h1], fun k hk => ?_⟩
    obtain ⟨e, he, hb, rfl⟩ := (preds_bit o k).1 hk
    have := h2 e he hb
    rwa [hgf] at this
theorem firstPure_of {L : Nat} : ∀ {l : List Oper} {i0 i : Nat} {o : Oper}, firstPure L l i0 = some (i, o) → ∃ j, i = i0 + j ∧ l[j]? = some o ∧ pureB o = true ∧ rdy L i o = true
  | [], _, _, _, h => by cases h
  | q :: r, i0, i, o, h => by
    unfold firstPure at h
    split at h
    · rename_i hb
      cases h
      obtain ⟨h1, h2⟩ := Bool.and_eq_true_iff.1 hb
      exact ⟨0, rfl, rfl, h1, h2⟩
    · obtain ⟨j, h1, h2⟩ := firstPure_of h
      exact ⟨j + 1, by omega, by simpa using h2⟩
theorem readyI_of {L : Nat} : ∀ {l : List Oper} {i0 : Nat} {i : Nat} {o : Oper}, (i, o) ∈ readyI L l i0 ↔ ∃ j, i = i0 + j ∧ l[j]? = some o ∧ rdy L i o = true
  | [], i0, i, o => by simp [readyI]
  | q :: r, i0, i, o => by
    have ih : (i, o) ∈ readyI L r (i0 + 1) ↔ ∃ j, i = i0 + 1 + j ∧ r[j]? = some o ∧ rdy L i o = true := readyI_of
    have tail : (∃ j, i = i0 + 1 + j ∧ r[j]? = some o ∧ rdy L i o = true) ↔ ∃ j, j ≠ 0 ∧ i = i0 + j ∧ (q :: r)[j]? = some o ∧ rdy L i o = true := by
      constructor
      · rintro ⟨j, h1, h2, h3⟩; exact ⟨j + 1, by omega, by omega, by simpa using h2, h3⟩
      · rintro ⟨j, h0, h1, h2, h3⟩
        obtain ⟨k, rfl⟩ := Nat.exists_eq_succ_of_ne_zero h0
        exact ⟨k, by omega, by simpa using h2, h3⟩
    unfold readyI
    split
    · rename_i hb
      rw [List.mem_cons, ih, tail]
      constructor
      · rintro (h | ⟨j, _, h⟩)
        · cases h; exact ⟨0, rfl, rfl, hb⟩
        · exact ⟨j, h⟩
      · rintro ⟨j, h1, h2, h3⟩
        cases j with
        | zero => left; simp at h2; subst h2; simp at h1; rw [h1]
        | succ j => right; exact ⟨j + 1, by omega, h1, h2, h3⟩
    · rename_i hb
      rw [ih, tail]
      constructor
      · rintro ⟨j, _, h⟩; exact ⟨j, h⟩
      · rintro ⟨j, h1, h2, h3⟩
        cases j with
        | zero => simp at h2; subst h2; simp at h1; subst h1; rw [h3] at hb; cases hb
        | succ j => exact ⟨j + 1, by omega, h1, h2, h3⟩
theorem ready_readyI {arr : Array Oper} {L : Nat} {l : Array Bool} (h : Lst arr L l) {i : Nat} : i ∈ Region.ready .any arr l ↔ ∃ o, arr[i]? = some o ∧ (i, o) ∈ readyI L arr.toList 0 := by
  constructor
  · intro hr
    obtain ⟨_, o, ho, _⟩ := mem_ready.1 hr
    exact ⟨o, ho, readyI_of.2 ⟨i, by omega, by rw [Array.getElem?_toList]; exact ho, (rdy_iff h ho).2 hr⟩⟩
  · rintro ⟨o, ho, hm⟩
    obtain ⟨j, hj, _, h3⟩ := readyI_of.1 hm
    exact (rdy_iff h ho).1 h3
def PendOk (β : Nm) (s : S) : List (Nat × Nat × Nat) → List (Nat × (World → Prop)) → Prop
  | [], [] => True
  | (i, f, x) :: p, (j, S) :: R => i = j ∧ (∀ w, (get s.h f x).holds β w (β f x) → S w) ∧ PendOk β s p R
  | _, _ => False
theorem PendOk.heap {β : Nm} {s s' : S} (hs : s'.h = s.h) : ∀ {p : List (Nat × Nat × Nat)} {R : List (Nat × (World → Prop))}, PendOk β s p R → PendOk β s' p R
  | [], [], _ => trivial
  | [], _ :: _, h => h.elim
  | (_, _, _) :: _, [], h => h.elim
  | (i, f, x) :: p, (j, S) :: R, h => ⟨h.1, by rw [hs]; exact h.2.1, PendOk.heap hs h.2.2⟩
theorem PendOk.now (hf : Fits β s.h w) : ∀ {p : List (Nat × Nat × Nat)} {R : List (Nat × (World → Prop))}, PendOk β s p R → ∀ r ∈ R, r.2 w
  | [], [], _, r, hr => by cases hr
  | [], _ :: _, h, _, _ => h.elim
  | (_, _, _) :: _, [], h, _, _ => h.elim
  | (i, f, x) :: p, (j, S) :: R, h, r, hr => by
    rcases List.mem_cons.1 hr with rfl | hr
    · exact h.2.1 w (hf.ck f x)
    · exact PendOk.now hf h.2.2 r hr
theorem keep_of {arr : Array Oper} {j : Nat} {o : Oper} (ho : arr[j]? = some o) {β' : Nm} {s' : S} (hw : Wf s) (hag : Agree s.h.length β β') : ∀ {p : List (Nat × Nat × Nat)} {R : List (Nat × (World → Prop))} {K : List (Nat × Nat × Nat) → Prop}, PendOk β s p R → keepK s s' o p K →
    ∃ p', K p' ∧ PendOk β' s' p' (R.filter fun r => !waits .any arr j r.1)
  | [], [], K, _, h => ⟨[], h, trivial⟩
  | [], _ :: _, K, hp, _ => hp.elim
  | (_, _, _) :: _, [], K, hp, _ => hp.elim
  | (i, f, x) :: p, (i', S) :: R, K, hp, h => by
    obtain ⟨rfl, hS, hp'⟩ := hp
    have hwt : waits .any arr j i = bit (preds o) i := by
      rw [bit_eq]
      unfold waits
      rw [ho]
      simp only [Option.map_some, Option.getD_some]
      rw [Bool.eq_iff_iff, preds_bit, Array.any_eq_true']
      constructor
      · rintro ⟨e, he, h⟩
        obtain ⟨h1, h2⟩ := Bool.and_eq_true_iff.1 h
        exact ⟨e, he, h1, by simpa using h2⟩
      · rintro ⟨e, he, h1, h2⟩
        exact ⟨e, he, by simp [h1, h2]⟩
    rw [keepK_cons] at h
    split at h
    · rename_i hb
      obtain ⟨p', hk, hp''⟩ := keep_of ho hw hag hp' h
      refine ⟨p', hk, ?_⟩
      rw [List.filter_cons, if_neg (by simp [hwt, hb])]
      exact hp''
    · rename_i hb
      have h1 := getK_of h
      have h2 := getK_of h1
      obtain ⟨hq, h3⟩ := h2
      obtain ⟨p', hk, hp''⟩ := keep_of ho hw hag hp' h3
      refine ⟨_, hk, ?_⟩
      rw [List.filter_cons, if_pos (by simp [hwt, hb])]
      refine ⟨rfl, fun w hh => hS w ?_, hp''⟩
      rw [← hq] at hh
      by_cases hf : f < s.h.length
      · rw [hag f x hf]
        exact Ck.holds_agree (n := s.h.length) (hw.h f x) (fun g y hg => (hag g y hg).symm) hh
      · have : get s.h f x = .no := by
          cases hc : get s.h f x <;> first | rfl | exact absurd (get_lt (by rw [hc]; simp)) hf
        rw [this]; trivial
theorem liftP_cons {o : Oper} {i k f x : Nat} {l : List (Nat × Nat × Nat)} : liftP o i ((k, f, x) :: l) = (match bit (preds o) k with | true => (i, f, x) :: liftP o i l | false => (k, f, x) :: liftP o i l) := rfl
theorem PendOk.lift {arr : Array Oper} {j : Nat} {o : Oper} (ho : arr[j]? = some o) {s : S} : ∀ {p : List (Nat × Nat × Nat)} {R : List (Nat × (World → Prop))}, PendOk β s p R →
    ∃ R', PendOk β s (liftP o j p) R' ∧ ∀ r ∈ R, r ∈ R' ∨ (waits .any arr j r.1 = true ∧ (j, r.2) ∈ R')
  | [], [], _ => ⟨[], trivial, fun r hr => by cases hr⟩
  | [], _ :: _, h => h.elim
  | (_, _, _) :: _, [], h => h.elim
  | (i, f, x) :: p, (i', S) :: R, h => by
    obtain ⟨rfl, h2, h3⟩ := h
    obtain ⟨R', h4, h5⟩ := PendOk.lift ho h3
    have hwt : waits .any arr j i = bit (preds o) i := by
      rw [bit_eq]
      unfold waits
      rw [ho]
      simp only [Option.map_some, Option.getD_some]
      cases hb : (preds o).testBit i with
      | true =>
        obtain ⟨e, he, h1, h2⟩ := (preds_bit o i).1 hb
        exact Array.any_eq_true'.2 ⟨e, he, by simp [h1, h2]⟩
      | false =>
        rw [Array.any_eq_false']
        intro e he hc
        obtain ⟨h1, h2⟩ := Bool.and_eq_true_iff.1 hc
        have := (preds_bit o i).2 ⟨e, he, h1, by simpa using h2⟩
        rw [hb] at this
        cases this
    rw [liftP_cons]
    cases hb : bit (preds o) i with
    | true =>
      refine ⟨(j, S) :: R', ⟨rfl, h2, h4⟩, fun r hr => ?_⟩
      rcases List.mem_cons.1 hr with rfl | hr
      · exact .inr ⟨hwt.trans hb, List.mem_cons_self ..⟩
      · rcases h5 r hr with h | ⟨h, h'⟩
        · exact .inl (List.mem_cons_of_mem _ h)
        · exact .inr ⟨h, List.mem_cons_of_mem _ h'⟩
    | false =>
      refine ⟨(i, S) :: R', ⟨rfl, h2, h4⟩, fun r hr => ?_⟩
      rcases List.mem_cons.1 hr with rfl | hr
      · exact .inl (List.mem_cons_self ..)
      · rcases h5 r hr with h | ⟨h, h'⟩
        · exact .inl (List.mem_cons_of_mem _ h)
        · exact .inr ⟨h, List.mem_cons_of_mem _ h'⟩
theorem held_of (hr : Rel cx β s a w) {op : Op} {i : Nat} {pend : List (Nat × Nat × Nat)} {K : List (Nat × Nat × Nat) → Prop} (h : heldK s op i pend K) :
    (∃ f x, reads s op = some (f, x) ∧ K ((i, f, x) :: pend)) ∨ (reads s op = none ∧ K pend) := by
  cases op with
  | load t x =>
    have h : evC s x fun v => match v with | .p f y _ => K ((i, f, y) :: pend) | .pe f y _ _ _ => K ((i, f, y) :: pend) | _ => False := h
    cases x with
    | tmp d =>
      obtain ⟨v, hv, h1⟩ := lk_of (K := fun v => match v with | .c r => (match r with | .p f y _ => K ((i, f, y) :: pend) | .pe f y _ _ _ => K ((i, f, y) :: pend) | _ => False) | _ => False) h
      cases v with
      | c r =>
        cases r with
        | p f y o => exact .inl ⟨f, y, by simp [reads, hv, C.keyOf], h1⟩
        | pe f y z e j => exact .inl ⟨f, y, by simp [reads, hv, C.keyOf], h1⟩
        | _ => exact h1.elim
      | _ => exact h1.elim
    | const v =>
      right
      unfold evC ev at h
      simp only at h
      split at h
      · rename_i r hr'
        unfold ofVal at hr'
        split at hr' <;> first | (cases hr'; exact h.elim) | cases hr'
      · exact h.elim
    | func f => exact h.elim
    | global g => exact h.elim
  | call c =>
    obtain ⟨callee, args, ats⟩ := c
    cases callee with
    | builtin b =>
      cases b with
      | len =>
        have h : (match args.toList with
          | [x] => evC s x fun v => match v with
            | .mp f y => K ((i, f, y) :: pend)
            | _ => K pend
          | _ => K pend) := h
        have hrd : reads s (.call { callee := .builtin .len, args := args, argTypes := ats }) = readsB s .len args.toList := rfl
        rw [hrd]
        split at h
        · rename_i x hx
          rw [hx]
          cases x with
          | tmp d =>
            obtain ⟨v, hv, h1⟩ := lk_of (K := fun v => match v with | .c r => (match r with | .mp f y => K ((i, f, y) :: pend) | _ => K pend) | _ => False) h
            cases v with
            | c r =>
              cases r with
              | mp f y => exact .inl ⟨f, y, by simp [readsB, hv], h1⟩
              | _ => exact .inr ⟨by simp [readsB, hv], h1⟩
            | _ => exact h1.elim
          | const v =>
            right
            refine ⟨rfl, ?_⟩
            unfold evC ev at h
            simp only at h
            split at h
            · rename_i r hr'
              unfold ofVal at hr'
              split at hr' <;> first | (cases hr'; exact h) | cases hr'
            · exact h.elim
          | func f => exact .inr ⟨rfl, h⟩
          | global g => exact h.elim
        · rename_i hne
          right
          refine ⟨?_, h⟩
          unfold readsB
          simp only
      | _ => exact .inr ⟨rfl, h⟩
    | _ => exact .inr ⟨rfl, h⟩
  | convert ts td x =>
    have h : evC s x fun v => match v with
      | .sl f y _ _ _ _ => K ((i, f, y) :: pend)
      | _ => K pend := h
    cases x with
    | tmp d =>
      obtain ⟨v, hv, h1⟩ := lk_of (K := fun v => match v with | .c r => (match r with | .sl f y _ _ _ _ => K ((i, f, y) :: pend) | _ => K pend) | _ => False) h
      cases v with
      | c r =>
        cases r with
        | sl f y z o n c => exact .inl ⟨f, y, by simp [reads, hv], h1⟩
        | _ => exact .inr ⟨by simp [reads, hv], h1⟩
      | _ => exact h1.elim
    | const v =>
      right
      refine ⟨rfl, ?_⟩
      unfold evC ev at h
      simp only at h
      split at h
      · rename_i r hr'
        unfold ofVal at hr'
        split at hr' <;> first | (cases hr'; exact h) | cases hr'
      · exact h.elim
    | func f => exact .inr ⟨rfl, h⟩
    | global g => exact h.elim
  | _ => exact .inr ⟨rfl, h⟩
theorem sep_of {arr : Array Oper} (h : sepAll arr = true) {i j : Nat} {oi oj : Oper} (hi : arr[i]? = some oi) (hj : arr[j]? = some oj) (hne : j ≠ i) (h1 : (preds oj).testBit i = false) (h2 : (preds oi).testBit j = false) : oi.apart arr oj = true := by
  have hil : i < arr.size := (Array.getElem?_eq_some_iff.1 hi).1
  have hjl : j < arr.size := (Array.getElem?_eq_some_iff.1 hj).1
  have := List.all_eq_true.1 (List.all_eq_true.1 h i (List.mem_range.2 hil)) j (List.mem_range.2 hjl)
  rw [hi, hj] at this
  simp only [bit_eq, h1, h2, Bool.false_or] at this
  rcases (Bool.or_eq_true _ _).mp this with h3 | h3
  · exact absurd (Nat.eq_of_beq_eq_true h3).symm hne
  · exact h3
theorem branch_of {step : Nat → Oper → Prop} : ∀ {l : List (Nat × Oper)}, branch step l → ∀ q ∈ l, step q.1 q.2
  | [], _, q, hq => by cases hq
  | [(i, o)], h, q, hq => by
    rcases List.mem_cons.1 hq with rfl | hq
    · exact h
    · cases hq
  | (i, o) :: q' :: r, h, q, hq => by
    rcases List.mem_cons.1 hq with rfl | hq
    · exact h.1
    · exact branch_of (l := q' :: r) h.2 q hq
theorem xdraw_wp {ops : List Oper} {arr : Array Oper} (harr : arr.toList = ops) (hv : Valid tb P) (hok : okDraw arr = true) {Q : Exit → Act → World → Prop} {K : S → Prop} {n0 : Nat} (hP : ∀ c a w, ¬ Q (.panic c) a w) (hQ : ∀ a w, Nx cx β n0 K a w → Q .normal a w) :
    ∀ (n L : Nat) (pend : List (Nat × Nat × Nat)) (s : S) (β' : Nm) (l : Array Bool) (R : List (Nat × (World → Prop))) (a : Act) (w : World), Lst arr L l → PendOk β' s pend R → Agree n0 β β' → n0 ≤ s.h.length → Rel cx β' s a w →
      xdraw P tb cx.N ops n L pend s K → wpR P .any arr Q n l R a w := by
  obtain ⟨hsel, hsep⟩ := Bool.and_eq_true_iff.1 hok
  intro n
  induction n with
  | zero =>
    intro L pend s β' l R a w hL hp hag hn hr h
    rw [xdraw_zero] at h
    split at h
    · rename_i hnil
      refine ⟨?_, hQ a w ⟨β', s, h, hr, hag, hn⟩⟩
      rw [List.eq_nil_iff_forall_not_mem]
      intro i hi
      obtain ⟨o, _, hm⟩ := (ready_readyI hL).1 hi
      rw [harr, hnil] at hm
      cases hm
    · exact h.elim
  | succ n ih =>
    intro L pend s β' l R a w hL hp hag hn hr h
    rw [xdraw_succ] at h
    split at h
    · rename_i i o hfp
      obtain ⟨j, hj, hlo, hpure, hrdy⟩ := firstPure_of hfp
      rw [Nat.zero_add] at hj
      subst hj
      have hao : arr[i]? = some o := by rw [← Array.getElem?_toList, harr]; exact hlo
      have hil : i < arr.size := (Array.getElem?_eq_some_iff.1 hao).1
      have hready := (rdy_iff hL hao).1 hrdy
      have hfree : ∀ j oj, arr[j]? = some oj → j ≠ i → l.getD j true = false → (∀ e ∈ oj.after, Region.binds .any e = true → e.on ≠ i) → o.apart arr oj = true := by
        intro j oj hoj hji hun hno
        refine sep_of hsep hao hoj hji ?_ ?_
        · cases hb : (preds oj).testBit i with
          | false => rfl
          | true =>
            obtain ⟨e, he, h1, h2⟩ := (preds_bit oj i).1 hb
            exact absurd h2 (hno e he h1)
        · cases hb : (preds o).testBit j with
          | false => rfl
          | true =>
            obtain ⟨h1, h2⟩ := Bool.and_eq_true_iff.1 hrdy
            have := (land_sub _ _).1 h2 j hb
            have hjl : j < arr.size := (Array.getElem?_eq_some_iff.1 hoj).1
            rw [Array.getD_eq_getD_getElem?, hL.get j hjl, this] at hun
            cases hun
      have hnow := PendOk.now hr.ft hp
      obtain ⟨s1, hs1, hr1, h1 | h1⟩ := guardK_of harr hr h
      · obtain ⟨t1, g1⟩ := s1
        obtain ⟨hwant, h2⟩ := h1
        have es1 : ∃ s1 : S, s1 = ⟨t1, g1⟩ := ⟨_, rfl⟩
        obtain ⟨s1, es1⟩ := es1
        rw [← es1] at hs1 hr1
        have h2 : heldK s1 o.op i (liftP o i pend) fun pend' => xpure tb s1 o.op fun v => putK cx.N s1.t s1.h o.dst v fun s' => xdraw P tb cx.N ops n (Nat.lor L (Nat.pow 2 i)) pend' s' K := by rw [es1]; exact h2
        obtain ⟨R1, hp1, hRR⟩ := (hp.heap hs1).lift hao
        have take : ∀ (S : World → Prop) (pend' : List (Nat × Nat × Nat)) (R' : List (Nat × (World → Prop))), PendOk β' s1 pend' R' → (R' = R1 ∨ R' = (i, S) :: R1) → S w → (∀ w, S w → ∀ f x, reads s1 o.op = some (f, x) → (get s1.h f x).holds β' w (β' f x)) → (R' = R1 → S = fun _ => True) →
            (xpure tb s1 o.op fun v => putK cx.N s1.t s1.h o.dst v fun s' => xdraw P tb cx.N ops n (Nat.lor L (Nat.pow 2 i)) pend' s' K) → wpR P .any arr Q (n + 1) l R a w := by
          intro S pend' R' hp' hR' hS hSr htriv h3
          obtain ⟨v, hrun, hvb, hput⟩ := xpure_of hv hr1.tm hr1.ft (xpure_wf (K' := fun v => v.bel s1.h.length ∧ _) hr1.wf (fun v hv h => ⟨hv, h⟩) h3)
          obtain ⟨s', ⟨hk, hs'⟩, hr'⟩ := hr1.put (dst := o.dst) (v := v) hvb (put_heap hput)
          have hrest := ih _ pend' s' β' _ R' _ w (hL.set hil) (hp'.heap hs') hag (by rw [hs', hs1]; exact hn) hr' hk
          refine wpR_first (S := S) (v := v.ren β') hao (Region.noSelect_spec hsel) (fun c a w hc => (hP _ _ _ hc).elim) n l R ((i, S) :: R1) a w hfree hready (.inl ⟨hwant, fun w' hw' => hrun w' (hSr w' hw')⟩) hS hnow (List.mem_cons_self ..) (fun r hr => (hRR r hr).imp (List.mem_cons_of_mem _) fun h => ⟨h.1, List.mem_cons_of_mem _ h.2⟩) ?_
          rcases hR' with rfl | rfl
          · rw [htriv rfl]; exact wpR_free _ _ _ i _ _ hrest
          · exact hrest
        rcases held_of hr1 h2 with ⟨f, x, hrd, h3⟩ | ⟨hrd, h3⟩
        · refine take (fun w' => (get s1.h f x).holds β' w' (β' f x)) ((i, f, x) :: liftP o i pend) ((i, fun w' => (get s1.h f x).holds β' w' (β' f x)) :: R1) ⟨rfl, fun w h => h, hp1⟩ (.inr rfl) (hr1.ft.ck f x) (fun w hw f' x' hrd' => ?_) (fun e => ?_) h3
          · rw [hrd] at hrd'; cases hrd'; exact hw
          · have := congrArg List.length e; simp at this
        · exact take (fun _ => True) (liftP o i pend) R1 hp1 (.inl rfl) trivial (fun w _ f x hrd' => by rw [hrd] at hrd'; cases hrd') (fun _ => rfl) h3
      · obtain ⟨hwant, h2⟩ := h1
        obtain ⟨R1, hp1, hRR⟩ := (hp.heap hs1).lift hao
        obtain ⟨s', hk, hs', hr'⟩ := skip_wp hr1 h2
        have hrest := ih _ _ s' β' _ R1 _ w (hL.set hil) (hp1.heap hs') hag (by rw [hs', hs1]; exact hn) hr' hk
        exact wpR_first (S := fun _ => True) (v := undef) hao (Region.noSelect_spec hsel) (fun c a w hc => (hP _ _ _ hc).elim) n l R ((i, fun _ => True) :: R1) a w hfree hready (.inr ⟨hwant, rfl⟩) trivial hnow (List.mem_cons_self ..) (fun r hr => (hRR r hr).imp (List.mem_cons_of_mem _) fun h => ⟨h.1, List.mem_cons_of_mem _ h.2⟩) (wpR_free _ _ _ i _ _ hrest)
    · split at h
      · rename_i hnil
        have hnone : Region.ready .any arr l = [] := by
          rw [List.eq_nil_iff_forall_not_mem]
          intro i hi
          obtain ⟨o, _, hm⟩ := (ready_readyI hL).1 hi
          rw [harr, hnil] at hm
          cases hm
        exact ⟨fun _ => hQ a w ⟨β', s, h, hr, hag, hn⟩, fun j hj => by rw [hnone] at hj; cases hj⟩
      · rename_i q ql hq
        refine ⟨fun hnone => ?_, fun j hj => ?_⟩
        · exfalso
          have hm : q ∈ readyI L ops 0 := by rw [hq]; exact List.mem_cons_self ..
          obtain ⟨i, o⟩ := q
          obtain ⟨k, hk, hlo, hrd⟩ := readyI_of.1 hm
          have hik : i = k := by omega
          subst hik
          have hao : arr[i]? = some o := by rw [← Array.getElem?_toList, harr]; exact hlo
          have := (rdy_iff hL hao).1 hrd
          rw [hnone] at this
          cases this
        · obtain ⟨o, hao, hm⟩ := (ready_readyI hL).1 hj
          rw [harr, hq] at hm
          have hst := branch_of h (j, o) hm
          have hil : j < arr.size := (Array.getElem?_eq_some_iff.1 hao).1
          have h1 := gop_wp (Q := Q) harr hv hr hst
          have next : ∀ a w, Nx cx β' s.h.length (fun s' => keepK s s' o pend fun pend' => xdraw P tb cx.N ops n (Nat.lor L (Nat.pow 2 j)) pend' s' K) a w →
              (∀ r ∈ R, waits .any arr j r.1 = false → r.2 w) ∧ wpR P .any arr Q n (l.setIfInBounds j true) (R.filter fun r => !waits .any arr j r.1) a w := by
            rintro a w ⟨β'', s', hk, hr', hag', hl'⟩
            obtain ⟨p', hk', hp'⟩ := keep_of hao hr.wf hag' hp hk
            refine ⟨fun r hr0 hw => PendOk.now hr'.ft hp' r (List.mem_filter.2 ⟨hr0, by simp [hw]⟩), ?_⟩
            exact ih _ p' s' β'' _ _ a w (hL.set hil) hp' (fun f x hf => (hag f x hf).trans (hag' f x (by omega))) (by omega) hr' hk'
          unfold wpOp
          simp only [hao]
          split at h1
          · rename_i hw
            rw [if_pos hw]
            exact .inl (Oper.wp_mono next h1)
          · rename_i hw
            rw [if_neg hw]
            exact next _ _ h1
end Go.X
set_option linter.constructorNameAsVariable false
set_option linter.unusedVariables false
namespace Go.X
variable {cx : Cx} {β : Nm} {s : S} {a : Act} {w : World} {P : Program} {tb : Tb}
structure LoopK (m : Nat) (body : S → (S → Prop) → Prop) (s : S) : Prop where
  ex : ∃ (ι : Type) (I : ι → S) (μ : ι → Nat), (∃ i σ, entP m σ s (I i)) ∧ ∀ i, capsP (I i).h → body (I i) fun s' => ∃ j σ, μ j < μ i ∧ entP m σ s' (I j)
theorem LoopK.mk' {m : Nat} {body : S → (S → Prop) → Prop} {s : S} (ι : Type) (I : ι → S) (μ : ι → Nat) (h0 : ∃ i σ, entP m σ s (I i)) (h : ∀ i, capsP (I i).h → body (I i) fun s' => ∃ j σ, μ j < μ i ∧ entP m σ s' (I j)) : LoopK m body s := ⟨ι, I, μ, h0, h⟩
def condK (s : S) (q : Operand) (A B : S → Prop) : Prop :=
  match q with
  | .tmp d => match s with
    | ⟨t0, h0⟩ => lk t0 d fun v => match v with
      | .c .tt => A ⟨t0, h0⟩
      | .c .ff => B ⟨t0, h0⟩
      | .c (.b b) => (b = true → A ⟨(d, .c .tt) :: t0, h0⟩) ∧ (b = false → B ⟨(d, .c .ff) :: t0, h0⟩)
      | _ => False
  | .const v => match v with
    | .bool true => A s
    | .bool false => B s
    | _ => False
  | _ => False
def wpC (P : Program) (tb : Tb) (N m : Nat) (c : Code) : S → (S → Prop) → (Nat → S → Prop) → (S → Prop) → Prop :=
  Code.rec (motive := fun _ => S → (S → Prop) → (Nat → S → Prop) → (S → Prop) → Prop)
    (fun s Kn _ _ => Kn s)
    (fun _ ops draw s Kn _ _ => match draw with
      | false => xops P tb N ops.toList ops.toList s Kn
      | true => xdraw P tb N ops.toList ops.toList.length 0 [] s Kn)
    (fun _ _ iha ihb s Kn Kx Kr => iha s (fun s => ihb s Kn Kx Kr) Kx Kr)
    (fun q _ _ iha ihb s Kn Kx Kr => condK s q (fun s => iha s Kn Kx Kr) (fun s => ihb s Kn Kx Kr))
    (fun id _ ih s Kn Kx Kr => ih s Kn (fun id' s' => match Nat.beq id' id with
      | true => Kn s'
      | false => Kx id' s') Kr)
    (fun _ ih s _ Kx Kr => LoopK m (fun s' K => ih s' K Kx Kr) s)
    (fun _ _ _ _ _ _ _ _ _ _ => False)
    (fun id s _ Kx _ => Kx id s)
    (fun _ _ _ _ _ _ => False)
    (fun _ s Kn _ _ => Kn s)
    (fun _ _ _ _ _ => False)
    (fun s _ _ Kr => Kr s)
    (fun _ _ _ _ _ => False) c
def okC : Code → Bool
  | .region _ ops draw => match draw with
    | false => true
    | true => okDraw ops
  | .seq a b => okC a && okC b
  | .cond _ a b => okC a && okC b
  | .block _ b => okC b
  | .loop b => okC b
  | _ => true
def Nk (cx : Cx) (K : S → Prop) (a : Act) (w : World) : Prop := ∃ β s, K s ∧ Rel cx β s a w
def post (cx : Cx) (Kn : S → Prop) (Kx : Nat → S → Prop) (Kr : S → Prop) : Exit → Act → World → Prop
  | .normal, a, w => Nk cx Kn a w
  | .exit id, a, w => Nk cx (Kx id) a w
  | .ret, a, w => Nk cx Kr a w
  | _, _, _ => False
theorem Rel.drew (hr : Rel cx β s a w) : Rel cx β s a { w with drawn := w.drawn + 1 } := by
  refine ⟨hr.dfr, hr.sz, hr.tm, ⟨fun f x => Ck.holds_block (hr.ft.ck f x) rfl, hr.ft.sep⟩, hr.wf, hr.ml, hr.pin, hr.os, hr.tape, hr.out, hr.hs, hr.fr, hr.ow, hr.kn⟩
theorem condK_of {q : Operand} {A B : S → Prop} (hr : Rel cx β s a w) (h : condK s q A B) : ∃ b s', a.eval q = .bool b ∧ Rel cx β s' a w ∧ (b = true → A s') ∧ (b = false → B s') := by
  obtain ⟨t0, h0⟩ := s
  cases q with
  | tmp d =>
    obtain ⟨v, hv, h1⟩ := lk_of h
    have he : a.eval (.tmp d) = v.ren β := by have := hr.tm.tm d v hv; simp [Act.eval, this]
    split at h1
    · exact ⟨true, ⟨t0, h0⟩, he, hr, fun _ => h1, fun e => by cases e⟩
    · exact ⟨false, ⟨t0, h0⟩, he, hr, fun e => (by cases e), fun _ => h1⟩
    · rename_i b
      cases hb : b with
      | true => exact ⟨true, ⟨(d, .c .tt) :: t0, h0⟩, by rw [he, hb]; rfl, hr.same hv (by simp [T.ren, C.ren, hb]) trivial, fun _ => h1.1 hb, fun e => by cases e⟩
      | false => exact ⟨false, ⟨(d, .c .ff) :: t0, h0⟩, by rw [he, hb]; rfl, hr.same hv (by simp [T.ren, C.ren, hb]) trivial, fun e => (by cases e), fun _ => h1.2 hb⟩
    · exact h1.elim
  | const v =>
    unfold condK at h
    simp only at h
    split at h
    · exact ⟨true, ⟨t0, h0⟩, rfl, hr, fun _ => h, fun e => by cases e⟩
    · exact ⟨false, ⟨t0, h0⟩, rfl, hr, fun e => (by cases e), fun _ => h⟩
    · exact h.elim
  | func f => exact h.elim
  | global g => exact h.elim
theorem wpC_of (hv : Valid tb P) (hmx : P.follows .mixedOrders = true) : ∀ (c : Code) (s : S) (Kn : S → Prop) (Kx : Nat → S → Prop) (Kr : S → Prop) (β : Nm) (a : Act) (w : World), okC c = true → Rel cx β s a w → wpC P tb cx.N cx.m c s Kn Kx Kr → c.wp P (post cx Kn Kx Kr) a w := by
  intro c
  induction c with
  | skip => intro s Kn Kx Kr β a w _ hr h; exact wp_skip ⟨β, s, h, hr⟩
  | label l => intro s Kn Kx Kr β a w _ hr h; exact wp_label ⟨β, s, h, hr⟩
  | region id ops draw =>
    intro s Kn Kx Kr β a w hok hr h
    cases draw with
    | false =>
      refine wp_region_list (xops_wp (n := s.h.length) rfl hv (β := β) (K := Kn) ?_ ops.toList β s a w (fun _ _ _ => rfl) (Nat.le_refl _) hr h)
      rintro a w ⟨β', s', hk, hr', _⟩
      exact ⟨β', s', hk, hr'⟩
    | true =>
      refine wp_region_any hmx (wpR_sound _ _ [] _ _ ?_)
      have hlen : ops.toList.length = ops.size := rfl
      refine xdraw_wp (n0 := s.h.length) (β := β) (K := Kn) rfl hv hok (fun c a w h => h) ?_ ops.size 0 [] s β _ [] a _ ⟨by simp, fun i hi => by simp [hi], fun k hk => by simp at hk⟩ trivial (fun _ _ _ => rfl) (Nat.le_refl _) hr.drew h
      rintro a w ⟨β', s', hk, hr', _⟩
      exact ⟨β', s', hk, hr'⟩
  | seq x y ihx ihy =>
    intro s Kn Kx Kr β a w hok hr h
    obtain ⟨hx, hy⟩ := Bool.and_eq_true_iff.1 hok
    refine wp_seq (wp_mono (ihx s _ Kx Kr β a w hx hr h) ?_)
    intro e a w hq
    cases e with
    | normal =>
      obtain ⟨β', s', hk, hr'⟩ := hq
      exact ihy s' Kn Kx Kr β' a w hy hr' hk
    | _ => exact hq
  | cond q x y ihx ihy =>
    intro s Kn Kx Kr β a w hok hr h
    obtain ⟨hx, hy⟩ := Bool.and_eq_true_iff.1 hok
    have h : condK s q (fun s => wpC P tb cx.N cx.m x s Kn Kx Kr) (fun s => wpC P tb cx.N cx.m y s Kn Kx Kr) := h
    obtain ⟨b, s', he, hr', hA, hB⟩ := condK_of hr h
    cases b with
    | true => exact wp_cond_true he (ihx s' Kn Kx Kr β a w hx hr' (hA rfl))
    | false => exact wp_cond_false he (ihy s' Kn Kx Kr β a w hy hr' (hB rfl))
  | block id b ih =>
    intro s Kn Kx Kr β a w hok hr h
    refine wp_block (wp_mono (ih s Kn _ Kr β a w hok hr h) ?_)
    intro e a w hq
    cases e with
    | exit id' =>
      obtain ⟨β', s', hk, hr'⟩ := hq
      simp only [Exit.inBlock]
      split at hk
      · rename_i hb
        rw [if_pos (Nat.eq_of_beq_eq_true hb)]
        exact ⟨β', s', hk, hr'⟩
      · rename_i hb
        rw [if_neg (Nat.ne_of_beq_eq_false hb)]
        exact ⟨β', s', hk, hr'⟩
    | _ => exact hq
  | loop b ih =>
    intro s Kn Kx Kr β a w hok hr h
    obtain ⟨ι, I, μ, ⟨i0, σ0, h0⟩, hround⟩ := h.ex
    obtain ⟨β0, hr0⟩ := entP_of hr h0
    refine wp_loop_ghost (fun n a w => ∃ i β, μ i = n ∧ Rel cx β (I i) a w) (μ i0) ⟨i0, β0, rfl, hr0⟩ ?_
    rintro n a w ⟨i, β, rfl, hr⟩
    refine wp_mono (ih (I i) _ Kx Kr β a w hok hr (hround i (capsP_of hr.ft))) ?_
    intro e a w hq
    cases e with
    | normal =>
      obtain ⟨β', s', ⟨j, σ, hlt, hj⟩, hr'⟩ := hq
      obtain ⟨β'', hr''⟩ := entP_of hr' hj
      exact ⟨μ j, hlt, j, β'', rfl, hr''⟩
    | _ => exact hq
  | exit id => intro s Kn Kx Kr β a w _ hr h; exact wp_exit ⟨β, s, h, hr⟩
  | ret => intro s Kn Kx Kr β a w _ hr h; exact wp_ret ⟨β, s, h, hr⟩
  | _ => intro s Kn Kx Kr β a w _ hr h; exact h.elim
def resK (tb : Tb) (s : S) : List ResultVar → (List T → Prop) → Prop
  | [], K => K []
  | .tmp t :: r, K => lk s.t t fun v => resK tb s r fun l => K (v :: l)
  | .cell x t :: r, K => lk s.t x fun u => match u with
    | .c ad => load tb s t ad fun v => resK tb s r fun l => K (v :: l)
    | _ => False
def toEs : List T → (List E → Prop) → Prop
  | [], K => K []
  | .c v :: r, K => toEs r fun l => K (.c v :: l)
  | .a v :: r, K => toEs r fun l => K (.a v :: l)
  | .t _ :: _, _ => False
def oneK (l : List T) (K : T → Prop) : Prop :=
  match l with
  | [v] => K v
  | l => toEs l fun es => K (.t es)
structure FinK (m : Nat) (s : S) (v : T) (Q : T → List Fam → Prop) : Prop where
  ex : ∃ (σ : List Sg) (v' : T) (h' : List Fam), Q v' h' ∧ entH m σ s.h h' (ifB (v'.belB h'.length) (v.eqK s.h.length (v'.rk σ 0) True))
def resV (tmps : Array Value) (r : ResultVar) : Sem Value :=
  match r with
  | .tmp t => pure (tmps.getD t undef)
  | .cell x t => do loadVar t (← asAddr (tmps.getD x undef))
theorem resK_of (hv : Valid tb P) (hr : Rel cx β s a w) : ∀ {rs : List ResultVar} {K : List T → Prop}, resK tb s rs K →
    ∃ vs, (rs.mapM (resV a.tmps)).run P w = .ok (vs.map (T.ren β)) w ∧ K vs
  | [], K, h => ⟨[], by rw [List.mapM_nil]; rfl, h⟩
  | .tmp t :: rs, K, h => by
    obtain ⟨v, hf, h1⟩ := lk_of h
    obtain ⟨vs, hrun, hk⟩ := resK_of hv hr h1
    have e : a.tmps.getD t undef = v.ren β := by have := hr.tm.tm t v hf; simp [this]
    refine ⟨v :: vs, ?_, hk⟩
    rw [List.mapM_cons]
    simp only [Sem.run_bind, resV, Sem.run_pure, Result.andThen_ok, hrun, e, List.map_cons]
  | .cell x t :: rs, K, h => by
    obtain ⟨u, hf, h1⟩ := lk_of h
    have e : a.tmps.getD x undef = u.ren β := by have := hr.tm.tm x u hf; simp [this]
    cases u with
    | c ad =>
      obtain ⟨f, y, hkey, r, hld, h2⟩ := load_of (β := β) hv h1
      obtain ⟨vs, hrun, hk⟩ := resK_of hv hr h2
      refine ⟨r :: vs, ?_, hk⟩
      have hl := hld w (hr.ft.ck f y)
      rw [List.mapM_cons]
      have e2 : (resV a.tmps (.cell x t)).run P w = .ok (r.ren β) w := by
        unfold resV
        simp only
        rw [e]
        cases ad <;> first | (cases hkey; done) | skip
        · simpa [Instr.loadAt, Instr.sureAddr, asAddr, T.ren, C.ren] using hl
        · simpa [Instr.loadAt, Instr.sureAddr, asAddr, T.ren, C.ren] using hl
      simp only [Sem.run_bind, e2, Sem.run_pure, Result.andThen_ok, hrun, List.map_cons]
    | _ => exact h1.elim
theorem resK_wf (hw : Wf s) : ∀ {rs : List ResultVar} {K K' : List T → Prop}, (∀ vs : List T, (∀ v ∈ vs, v.bel s.h.length) → K vs → K' vs) → resK tb s rs K → resK tb s rs K'
  | [], K, K', hk, h => hk [] (by simp) h
  | .tmp t :: rs, K, K', hk, h => lk_wf hw.t (fun v hv h => resK_wf hw (fun vs hvs h => hk _ (by
      intro u hu
      rcases List.mem_cons.1 hu with rfl | hu
      · exact hv
      · exact hvs u hu) h) h) h
  | .cell x t :: rs, K, K', hk, h => lk_wf hw.t (fun v hv h => by
      cases v with
      | c ad => exact load_wf hw (fun v hv h => resK_wf hw (fun vs hvs h => hk _ (by
          intro u hu
          rcases List.mem_cons.1 hu with rfl | hu
          · exact hv
          · exact hvs u hu) h) h) h
      | _ => exact h.elim) h
theorem toEs_of : ∀ {l : List T} {K : List E → Prop}, toEs l K → ∃ es, l.map (T.ren β) = es.map (E.ren β) ∧ (∀ n, (∀ v ∈ l, v.bel n) → ∀ e ∈ es, e.bel n) ∧ K es
  | [], K, h => ⟨[], rfl, by simp, h⟩
  | .c v :: r, K, h => by
    obtain ⟨es, h1, h2, hk⟩ := toEs_of (l := r) h
    exact ⟨.c v :: es, by simp [h1, T.ren, E.ren], fun n hn e he => by
      rcases List.mem_cons.1 he with rfl | he
      · exact hn (.c v) (by simp)
      · exact h2 n (fun v hv => hn v (by simp [hv])) e he, hk⟩
  | .a v :: r, K, h => by
    obtain ⟨es, h1, h2, hk⟩ := toEs_of (l := r) h
    exact ⟨.a v :: es, by simp [h1, T.ren, E.ren], fun n hn e he => by
      rcases List.mem_cons.1 he with rfl | he
      · exact hn (.a v) (by simp)
      · exact h2 n (fun v hv => hn v (by simp [hv])) e he, hk⟩
  | .t _ :: _, K, h => h.elim
theorem results_of (hv : Valid tb P) (hr : Rel cx β s a w) {fn : Func} {rs : List ResultVar} (hrs : fn.results.toList = rs) {K : T → Prop} (h : resK tb s rs fun l => oneK l K) :
    ∃ v : T, (results fn a.tmps).run P w = .ok (v.ren β) w ∧ K v := by
  obtain ⟨vs, hrun, hone⟩ := resK_of hv hr h
  have e : (results fn a.tmps).run P w = .ok (if h : (vs.map (T.ren β)).toArray.size = 1 then (vs.map (T.ren β)).toArray[0] else .tuple (vs.map (T.ren β)).toArray) w := by
    have el : results fn a.tmps = (do let vs ← fn.results.mapM (resV a.tmps); pure (if h : vs.size = 1 then vs[0] else .tuple vs)) := by
      unfold results
      congr 1
    rw [el, Array.mapM_eq_mapM_toList, hrs]
    simp only [Sem.run_bind, Sem.run_map, hrun, Result.andThen_ok, Sem.run_pure]
  rcases vs with _ | ⟨v, _ | ⟨u, r⟩⟩
  · have hone' : toEs [] fun es => K (.t es) := hone
    obtain ⟨es, h1, h2, hk⟩ := toEs_of (β := β) hone'
    exact ⟨.t es, by rw [e]; simp [T.ren, ← h1], hk⟩
  · exact ⟨v, by rw [e]; simp, hone⟩
  · have hone' : toEs (v :: u :: r) fun es => K (.t es) := hone
    obtain ⟨es, h1, h2, hk⟩ := toEs_of (β := β) hone'
    refine ⟨.t es, ?_, hk⟩
    rw [e, dif_neg (by simp)]
    simp only [T.ren, ← h1]
theorem oneK_bel {n : Nat} {l : List T} {K : T → Prop} (hl : ∀ v ∈ l, v.bel n) (h : oneK l K) : oneK l fun v => v.bel n ∧ K v := by
  match l, h with
  | [v], h => exact ⟨hl v (by simp), h⟩
  | [], h => exact ⟨by simp [T.bel], h⟩
  | u :: v :: r, h =>
    have key : ∀ (l : List T) (K : List E → Prop), (∀ v ∈ l, v.bel n) → toEs l K → toEs l fun es => (∀ e ∈ es, e.bel n) ∧ K es := by
      intro l
      induction l with
      | nil => intro K _ h; exact ⟨by simp, h⟩
      | cons q l ih =>
        intro K hl h
        cases q with
        | c v =>
          have h1 := ih (fun l => K (.c v :: l)) (fun v hv => hl v (by simp [hv])) h
          have hv : (E.c v).bel n := hl (.c v) (by simp)
          revert h1
          have mono : ∀ (l : List T) (A B : List E → Prop), (∀ es, A es → B es) → toEs l A → toEs l B := by
            intro l
            induction l with
            | nil => intro A B hab h; exact hab _ h
            | cons q l ih => intro A B hab h; cases q <;> first | exact ih _ _ (fun es he => hab _ he) h | exact h
          exact mono l _ _ (fun es he => ⟨fun e hm => by
            rcases List.mem_cons.1 hm with rfl | hm
            · exact hv
            · exact he.1 e hm, he.2⟩)
        | a v =>
          have h1 := ih (fun l => K (.a v :: l)) (fun v hv => hl v (by simp [hv])) h
          have hv : (E.a v).bel n := hl (.a v) (by simp)
          revert h1
          have mono : ∀ (l : List T) (A B : List E → Prop), (∀ es, A es → B es) → toEs l A → toEs l B := by
            intro l
            induction l with
            | nil => intro A B hab h; exact hab _ h
            | cons q l ih => intro A B hab h; cases q <;> first | exact ih _ _ (fun es he => hab _ he) h | exact h
          exact mono l _ _ (fun es he => ⟨fun e hm => by
            rcases List.mem_cons.1 hm with rfl | hm
            · exact hv
            · exact he.1 e hm, he.2⟩)
        | t v => exact h.elim
    exact key _ _ hl h
def zipI : Nat → List T → List (Nat × T)
  | _, [] => []
  | i, v :: r => (i, v) :: zipI (i + 1) r
theorem find_zip : ∀ {l : List T} {i0 i : Nat} {v : T}, find (zipI i0 l) i = some v → ∃ j, i = i0 + j ∧ l[j]? = some v
  | [], i0, i, v, h => by cases h
  | u :: r, i0, i, v, h => by
    unfold zipI find at h
    split at h
    · rename_i he
      cases h
      exact ⟨0, by omega, rfl⟩
    · obtain ⟨j, h1, h2⟩ := find_zip h
      exact ⟨j + 1, by omega, by simpa using h2⟩
theorem Ctr.mk' {F : Nat} {fn : Func} {c : Code} {N : Nat} {args : List T} {h : List Fam} {Q : T → List Fam → Prop} {rs : List ResultVar} (hv : Valid tb P) (hmx : P.follows .mixedOrders = true) (hf : P.funcs[F]? = some fn) (hb : fn.body = some c) (hN : fn.ntmps = N)
    (hrs : fn.results.toList = rs) (hcf : ∀ (args : Array Value) (W : World), (callFunc F args).run P W = .ok (.enter F args) W) (hok : okC c = true) (hal : Nat.ble args.length N = true) (hab : args.all (T.belB h.length) = true) (hbk : belsK h.length h True)
    (hwp : capsP h → wpC P tb N h.length c ⟨zipI 0 args, h⟩ (fun s => resK tb s rs fun l => oneK l fun v => FinK h.length s v Q) (fun _ _ => False) (fun s => resK tb s rs fun l => oneK l fun v => FinK h.length s v Q)) : Ctr P F args h Q := by
  refine ⟨hcf, fun β W hfit => calls_of_wp hf hb ?_⟩
  have hal := Nat.le_of_ble_eq_true hal
  obtain ⟨hbel, _⟩ := belsK_of hbk (fun f x => hfit.flat f x)
  let cx : Cx := ⟨W, fun b => ∃ f x, (get h f x).owned = true ∧ (β f x).1 = b, fun b => ∃ f x, (get h f x).known = true ∧ (β f x).1 = b, h.length, β, N⟩
  have hsz : (args.map (T.ren β)).toArray.size = args.length := by simp
  have hr : Rel cx β ⟨zipI 0 args, h⟩ { tmps := (args.map (T.ren β)).toArray ++ Array.replicate (fn.ntmps - (args.map (T.ren β)).toArray.size) undef, defers := [] } W := by
    refine ⟨rfl, ?_, ⟨fun i v hv => ?_⟩, hfit, ⟨fun i v hv => ?_, hbel⟩, Nat.le_refl _, fun _ _ _ => rfl, rfl, rfl, rfl, Nat.le_refl _, fun _ _ _ => rfl, fun f x ho => .inl ⟨f, x, ho, rfl⟩, fun f x ho => .inl ⟨f, x, ho, rfl⟩⟩
    · show _ = N
      simp only [Array.size_append, Array.size_replicate, hsz]
      omega
    · obtain ⟨j, hj, hl⟩ := find_zip hv
      have hjl := (List.getElem?_eq_some_iff.1 hl).1
      simp only
      rw [Array.getElem?_append_left (by rw [hsz]; omega)]
      have : i = j := by omega
      subst this
      simp [hl]
    · obtain ⟨j, hj, hl⟩ := find_zip hv
      exact T.belB_bel (List.all_eq_true.1 hab v (List.mem_of_getElem? hl))
  have hmain := wpC_of hv hmx c _ _ _ _ β _ W hok hr (hwp (capsP_of hfit))
  have fin : ∀ a w, Nk cx (fun s => resK tb s rs fun l => oneK l fun v => FinK h.length s v Q) a w → a.defers = [] ∧ ∃ v, (results fn a.tmps).run P w = .ok v w ∧
      ∃ v0 h' β', Q v0 h' ∧ Ending.returned v = .returned (v0.ren β') ∧ v0.bel h'.length ∧ Left β h W β' h' w := by
    rintro a w ⟨β1, s1, hk, hr1⟩
    obtain ⟨v, hrun, hvb1, hfin⟩ := results_of hv hr1 hrs (resK_wf hr1.wf (fun vs hvs h => oneK_bel hvs h) hk)
    obtain ⟨σ, v', h', hQ, hent⟩ := hfin.ex
    obtain ⟨β2, β', hr2, hag2, hna, hβ, hrel, hrest⟩ := entH_of hr1 hent
    obtain ⟨hvb, heq⟩ := ifB_of hrest
    obtain ⟨he, _⟩ := eqT_of heq
    have hr' := hrel [] (fun i v hv => by cases hv)
    refine ⟨hr1.dfr, _, hrun, v', h', β', hQ, ?_, T.belB_bel hvb, ?_⟩
    · rw [T.ren_agree hvb1 hag2, he β2 hna, rk_T hβ]
    · exact ⟨hr'.ml, hr'.pin, hr'.ft, ⟨fun i v hv => (by cases hv), hr'.wf.h⟩, hr'.os, hr'.tape, hr'.out, hr'.hs, fun b hb hne => hr'.fr b hb (by rintro ⟨f, x, ho, e⟩; exact hne f x ho e), hr'.ow, hr'.kn⟩
  refine wp_mono hmain ?_
  intro e a w hq
  cases e with
  | normal => exact fin a w hq
  | ret => exact fin a w hq
  | exit id =>
    obtain ⟨_, _, hk, _⟩ := hq
    exact hk.elim
  | _ => exact hq.elim
end Go.X
namespace Go.X
theorem all_one {p : Nat → Prop} (h : p 0) : ∀ i, i < 1 → p i := by
  intro i hi
  have : i = 0 := by omega
  subst this; exact h
theorem Ctr.mono' {P : Program} {F : Nat} {args : List T} {h : List Fam} {Q Q' : T → List Fam → Prop} (hc : Ctr P F args h Q) (hq : ∀ v h', Q v h' → Q' v h') : Ctr P F args h Q' :=
  ⟨hc.cf, fun β W hf => (hc.run β W hf).mono fun e W' hh => by
    obtain ⟨v, h', β', h1, h2⟩ := hh
    exact ⟨v, h', β', hq v h' h1, h2⟩⟩
theorem Ctr.tt {P : Program} {F : Nat} {args : List T} {h : List Fam} {R : List Fam → Prop} (hc : Ctr P F args h fun v h' => ∃ b, v = .c (.b b) ∧ b = true ∧ R h') : Ctr P F args h fun v h' => v = .c .tt ∧ R h' :=
  ⟨hc.cf, fun β W hf => (hc.run β W hf).mono fun e W' hh => by
    obtain ⟨v, h', β', ⟨b, rfl, rfl, hR⟩, he, _, hl⟩ := hh
    exact ⟨.c .tt, h', β', ⟨rfl, hR⟩, he, trivial, hl⟩⟩
theorem n1 {p : Prop} [Decidable p] : (decide p = true) = p := decide_eq_true_eq
theorem n2 {p : Prop} {_ : Decidable p} : decide p = false ↔ ¬p := decide_eq_false_iff_not
theorem n3 (b : Bool) : ((!b) = true) = (b = false) := Bool.not_eq_true' b
theorem n4 (b : Bool) : ((!b) = false) = (b = true) := Bool.not_eq_false' b
theorem n5 (a b : Bool) : ((a && b) = true) = (a = true ∧ b = true) := Bool.and_eq_true a b
theorem n6 {x y : Bool} : (x && y) = false ↔ x = false ∨ y = false := Bool.and_eq_false_iff
theorem n7 (a b : Bool) : ((a || b) = true) = (a = true ∨ b = true) := Bool.or_eq_true a b
theorem n8 {x y : Bool} : (x || y) = false ↔ x = false ∧ y = false := Bool.or_eq_false_iff
theorem n9 (b : Bool) : (b && true) = b := Bool.and_true b
theorem n10 {a b : Int} : ¬a < b ↔ b ≤ a := Int.not_lt
theorem n11 {a b : Int} : ¬a ≤ b ↔ b < a := Int.not_le
theorem n12 : (¬True) = False := not_true_eq_false
theorem n13 (p : Prop) : (p ∨ p) = p := or_self p
theorem n14 (p : Prop) : (True ∧ p) = p := true_and p
theorem n15 : (true = false) = False := Bool.true_eq_false
theorem n16 : (false = true) = False := Bool.false_eq_true
theorem n17 : (¬False) = True := not_false_eq_true
theorem n18 {α : Type _} [BEq α] [ReflBEq α] {a : α} : (a == a) = true := beq_self_eq_true a
theorem n19 (h : Decidable True) : @decide True h = true := decide_true h
theorem n20 (h : Decidable False) : @decide False h = false := decide_false h
theorem n21 (n : Nat) : (n : Int).toNat = n := rfl
theorem n22 (n : Nat) : 0 + n = n := Nat.zero_add n
theorem m1 {α β : Type _} {f : α → β} {a : α} {l : List α} : List.map f (a :: l) = f a :: List.map f l := rfl
theorem m2 {α β : Type _} {f : α → β} : List.map f [] = [] := rfl
theorem m3 {α : Type _} {a : α} {l m : List α} : (a :: l) ++ m = a :: (l ++ m) := rfl
theorem m4 {α : Type _} (l : List α) : [] ++ l = l := rfl
theorem m5 {α : Type _} {a : α} {l : List α} : (a :: l).length = l.length + 1 := rfl
theorem m6 {α : Type _} : ([] : List α).length = 0 := rfl
theorem m7 {α β : Type _} (a : α) (f : α → β) : Option.map f (some a) = some (f a) := rfl
theorem m8 {α β : Type _} (a : α) (f : α → Option β) : (some a).bind f = f a := rfl
theorem m9 (n : Nat) : n + 0 = n := rfl
theorem m10 (n m : Nat) : n + m - n = m := Nat.add_sub_cancel_left n m
theorem m11 {α : Type _} {p : α → Bool} {a : α} {l : List α} : (a :: l).all p = (p a && l.all p) := rfl
theorem m12 {α : Type _} {p : α → Bool} : ([] : List α).all p = true := rfl
theorem m13 {α : Type _} {l m : List α} : List.append l m = l ++ m := rfl
theorem m14 : (!true) = false := rfl
theorem m15 (b : Bool) : (b || false) = b := Bool.or_false b
theorem m16 (b : Bool) : (b || b) = b := Bool.or_self b
theorem m17 : (!false) = true := rfl
theorem m18 {α : Type _} (l : List α) : l ++ [] = l := List.append_nil l
theorem m19 (b : Bool) : (b && b) = b := Bool.and_self b
theorem bff {b : Bool} {p : Prop} (h1 : b = false) (h2 : b = true) : p := by rw [h1] at h2; cases h2
theorem kL {m : Nat} {body : S → (S → Prop) → Prop} {s : S} (h : LoopK m body s) : LoopK m body s := h
theorem kC {P : Program} {F : Nat} {args : List T} {H : List Fam} {K : T → List Fam → Prop} (h : CallK P F args H K) : CallK P F args H K := h
theorem kF {m : Nat} {s : S} {v : T} {Q : T → List Fam → Prop} (h : FinK m s v Q) : FinK m s v Q := h
theorem kM {c : Ck} {K : Ck → Prop} (h : ManyK c K) : ManyK c K := h
theorem CallK.mk3 {P : Program} {F : Nat} {args : List T} {H : List Fam} {K : T → List Fam → Prop} {σ : List Sg} {nl : List Fam} {args0 : List T} {h0 : List Fam} {Q : T → List Fam → Prop} {H2 H1 : List Fam} {N n : Nat} (hc : Ctr P F args0 h0 Q) (hap : apart σ = true) (hnl : nl.all nilB = true)
    (h1 : H ++ nl = H1) (hN : H1.length = N) (hn : H.length = n)
    (hH : givesF σ N H1 σ h0 = some H2) (hle : leS n H1 σ N σ h0 (belsK N (h0.map (Fam.rk σ N)) (argsK n args (args0.map (T.rk σ N)) True)))
    (hk : ∀ v h', Q v h' → capsP h' → RetG σ H2 h' v K) : CallK P F args H K := by
  subst h1 hN hn
  exact CallK.mk2 hc hap hnl hH hle hk
theorem ret_mk3 {σ : List Sg} {H h' : List Fam} {v : T} {K : T → List Fam → Prop} {H' : List Fam} {v' : T} {N : Nat} (hN : H.length = N) (h : givesF σ N H σ h' = some H') (hv : v.rk σ N = v') (hk : K v' H') : RetG σ H h' v K := by
  subst hN
  exact ret_mk h hv hk
end Go.X
set_option linter.unusedVariables false
namespace Go.X
open Go.RowKit Go.ChangeShapes Go.WideShapes Go.OpenShut
inductive K where
  | i (k : IntKind) | b | s | sl (ks : List K)
section
variable {H : Type} {enc : TypeId × Value → H} {P : Program} {W : World}
end
end Go.X
set_option linter.unusedVariables false
namespace Go.X
open Go.RowKit Go.ChangeShapes Go.WideShapes Go.OpenShut
inductive DC where
  | f (c : C)
  | n (z n c : Nat)
def DC.mk (F : Nat → Nat) (i j : Nat) : DC → C
  | .f c => c
  | .n z m c => .sl (F j) i z 0 m c
theorem fits_read {β : Nm} {W : World} {h : List Fam} (hh : ∀ f x, (get h f x).holds β W (β f x)) (hno : ∀ f x, (get h f x).owned = false) : Fits β h W :=
  ⟨hh, fun f x g y _ ho => by rw [hno] at ho; cases ho⟩
theorem glue {P : Program} {F : Nat} {args : List T} {h : List Fam} {β : Nm} {W : World} (hc : Ctr P F args h (fun v _ => v = .c .tt)) (hf : Fits β h W) (hno : ∀ f x, (get h f x).owned = false) :
    Calls P F (args.map (T.ren β)).toArray W fun e W' => e = .returned (.bool true) ∧ Below W.heap.size W W' := by
  refine (hc.run β W hf).mono fun e W' hh => ?_
  obtain ⟨v, h', β', rfl, rfl, _, hl⟩ := hh
  exact ⟨rfl, hl.os, hl.tape, hl.out, hl.hs, fun k hk => hl.fr k hk (fun f x ho => by rw [hno] at ho; cases ho)⟩
section
variable {H : Type} {enc : TypeId × Value → H} {P : Program} {W : World}
end
end Go.X
namespace Go.X
def rowOf {α : Type} [Inhabited α] (enc : α → List C) (l : List α) : Nat → List C := fun i => enc (l.getD i default)
theorem getD_at {α : Type} [Inhabited α] {l : List α} {i : Nat} (h : i < l.length) : l.getD i default = l[i] := by
  simp [List.getD, List.getElem?_eq_getElem h]
theorem app_rowG {α : Type} [Inhabited α] (enc : α → List C) (m : List α) (x : α) (cs : Nat → List C) (hc : cs 0 = enc x) (i : Nat) (hi : i < (m ++ [x]).length) : appF m.length (rowOf enc m) 0 cs i = rowOf enc (m ++ [x]) i := by
  unfold appF rowOf
  simp only [List.length_append, List.length_singleton] at hi
  by_cases h : i < m.length
  · rw [if_pos h]
    simp [List.getD, List.getElem?_append_left h]
  · rw [if_neg h]
    have : i = m.length := by omega
    subst this
    simp [hc, List.getD]
theorem app_rowL {α : Type} [Inhabited α] (enc : α → List C) (m x : List α) (o : Nat) (cs : Nat → List C) (hc : ∀ j, j < x.length → cs (o + j) = enc (x.getD j default)) (i : Nat) (hi : i < (m ++ x).length) : appF m.length (rowOf enc m) o cs i = rowOf enc (m ++ x) i := by
  unfold appF rowOf
  simp only [List.length_append] at hi
  by_cases h : i < m.length
  · rw [if_pos h]
    simp [List.getD, List.getElem?_append_left h]
  · rw [if_neg h, hc (i - m.length) (by omega)]
    simp [List.getD, List.getElem?_append_right (Nat.not_lt.1 h)]
theorem getD_ext {α : Type} [Inhabited α] {l m : List α} (h1 : l.length = m.length) (h2 : ∀ i, i < l.length → l.getD i default = m.getD i default) : l = m := by
  apply List.ext_getElem h1
  intro i hi hj
  have := h2 i hi
  rwa [getD_at hi, getD_at hj] at this
theorem take_snocG {α : Type} [Inhabited α] (l : List α) {k : Nat} (h : k < l.length) : l.take (k + 1) = l.take k ++ [l.getD k default] := by
  rw [← List.take_append_getElem h, getD_at h]
theorem drop_consG {α : Type} [Inhabited α] (l : List α) {k : Nat} (h : k < l.length) : l.drop k = l.getD k default :: l.drop (k + 1) := by
  rw [List.drop_eq_getElem_cons h, getD_at h]
theorem getD_set {α : Type} [Inhabited α] (l : List α) (k : Nat) (x : α) (i : Nat) (h : k < l.length) : (l.set k x).getD i default = if i = k then x else l.getD i default := by
  simp only [List.getD, List.getElem?_set]
  by_cases e : k = i
  · subst e; simp [h]
  · simp [e, Ne.symm e]
theorem take_set_snocG {α : Type} (l : List α) (k : Nat) (x : α) (h : k < l.length) : (l.set k x).take (k + 1) = l.take k ++ [x] := by
  rw [List.take_succ_eq_append_getElem (by rw [List.length_set]; exact h), List.take_set_of_le (Nat.le_refl _), List.getElem_set_self]
theorem take_set_leG {α : Type} (l : List α) (k : Nat) (x : α) {n : Nat} (h : n ≤ k) : (l.set k x).take n = l.take n := List.take_set_of_le h
def encB8 (b : UInt8) : List C := [.i .u8 (b.toNat : Nat)]
def encI (x : Int) : List C := [.i .i64 x]
abbrev mkS (l : List UInt8) : ByteArray := ⟨⟨l⟩⟩
instance : Inhabited UInt8 := ⟨0⟩
theorem bytesOf_row (l : List UInt8) (f : Nat → List C) (o n : Nat) (h : ∀ i, i < n → f (o + i) = encB8 (l.getD (o + i) default)) (hn : o + n ≤ l.length) : bytesOf f o n = mkS ((l.drop o).take n) := by
  unfold bytesOf mkS
  congr 1
  apply Array.ext
  · simp; omega
  · intro i h1 h2
    have hi : i < n := by simpa using h1
    simp only [Array.getElem_map, Array.getElem_range, h i hi, encB8, byteOf]
    rw [getD_at (by omega)]
    simp
theorem mkS_size (l : List UInt8) : (mkS l).size = l.length := rfl
theorem mkS_append (l m : List UInt8) : mkS l ++ mkS m = mkS (l ++ m) := by
  apply ByteArray.ext
  simp [ByteArray.data_append]
theorem mkS_inj {l m : List UInt8} : mkS l = mkS m ↔ l = m := by simp [mkS]
theorem mkS_of (s : ByteArray) : mkS s.data.toList = s := by cases s; rfl
theorem mkS_list (l : List UInt8) : (mkS l).data.toList = l := rfl
theorem mkS_ext (l : List UInt8) (a b : Nat) : (mkS l).extract a b = mkS ((l.take b).drop a) := by
  apply ByteArray.ext
  simp [ByteArray.data_extract, List.extract, List.drop_take]
theorem xnC {p q : Prop} (h : p) (e : p = q := by (try simp only [n1, n2, n3, n4, n5, n6, n7, n8, n9, n10, n11, n12, n13, n14, n15, n16, reduceCtorEq, n17, n18, n19, n20, n21, n22]) <;> rfl) : q := e ▸ h
theorem xoC {p : Prop} (h : p := by first | rfl | omega | exact fun _ _ => rfl | assumption | (split <;> omega) | (and_intros <;> first | rfl | omega | (split <;> omega)) | (dsimp only [maxLen]; and_intros <;> omega) | (simp only [n21, n22, m9]; done) | (simp only [n21, n22, m9]; first | omega | (and_intros <;> omega)) | fail) : p := h
theorem xaC {p : Prop} (h : p := by first | (and_intros <;> first | rfl | omega) | fail) : p := h
theorem xeC {p : Prop} (h : p := by first | exact trivial | rfl | exact Nat.le_refl _ | exact (fun _ _ => rfl) | exact all_one (by rfl) | (simp only [Int.toNat_natCast, Nat.zero_add, Nat.add_zero]; done) | fail) : p := h
theorem xfC {p : Prop} (h : p := by first | (exfalso; assumption) | (exfalso; omega) | fail) : p := h
theorem xwB {a b c d : Prop} (h1 : b) (h2 : c) : a ∨ (b ∧ c) ∨ d := Or.inr (Or.inl ⟨h1, h2⟩)
theorem xwC {a a' b c d : Prop} (h1 : b) (h2 : c) : a ∨ a' ∨ (b ∧ c) ∨ d := Or.inr (Or.inr (Or.inl ⟨h1, h2⟩))
theorem xwD {a a' a2 b c d : Prop} (h1 : b) (h2 : c) : a ∨ a' ∨ a2 ∨ (b ∧ c) ∨ d := Or.inr (Or.inr (Or.inr (Or.inl ⟨h1, h2⟩)))
theorem xwE {a a' a2 a3 b c : Prop} (h1 : b) (h2 : c) : a ∨ a' ∨ a2 ∨ a3 ∨ (b ∧ c) := Or.inr (Or.inr (Or.inr (Or.inr ⟨h1, h2⟩)))
class StopC (p : Prop) : Prop where
  d : True
instance {m : Nat} {body : S → (S → Prop) → Prop} {s : S} : StopC (LoopK m body s) := ⟨trivial⟩
instance {P : Program} {F : Nat} {args : List T} {H : List Fam} {K : T → List Fam → Prop} : StopC (CallK P F args H K) := ⟨trivial⟩
instance {m : Nat} {s : S} {v : T} {Q : T → List Fam → Prop} : StopC (FinK m s v Q) := ⟨trivial⟩
instance {c : Ck} {K : Ck → Prop} : StopC (ManyK c K) := ⟨trivial⟩
instance {α : Type _} {p : α → Prop} : StopC (∃ x, p x) := ⟨trivial⟩
theorem xstp {p : Prop} [StopC p] (h : p) : p := h
class GoC (p : Prop) : Prop where
  d : True
instance {p q : Prop} : GoC (p ∧ q) := ⟨trivial⟩
instance {p q : Prop} : GoC (p ∨ q) := ⟨trivial⟩
theorem xgon {p : Prop} [GoC p] (h : p) : p := h
theorem xcal {P : Program} {F : Nat} {args : List T} {H : List Fam} {K : T → List Fam → Prop} {σ : List Sg} {nl : List Fam} {args0 : List T} {h0 : List Fam} {Q : T → List Fam → Prop} {H2 H1 : List Fam} {N n : Nat} (hc : Ctr P F args0 h0 Q) (hk : ∀ v h', Q v h' → capsP h' → RetG σ H2 h' v K)
    (hap : apart σ = true := by rfl) (hnl : nl.all nilB = true := by rfl)
    (h1 : H ++ nl = H1 := by first | exact List.append_nil _ | ((try simp only [List.cons_append, List.nil_append]) <;> rfl)) (hN : H1.length = N := by (try simp only [↓List.length_cons, ↓List.length_nil, Nat.reduceAdd]) <;> rfl) (hn : H.length = n := by (try simp only [↓List.length_cons, ↓List.length_nil, Nat.reduceAdd]) <;> rfl)
    (hH : givesF σ N H1 σ h0 = some H2 := by (try simp (maxSteps := 1000000) only [givesF, setF, updF, Fam.zeroth, Fam.rk, Ck.rk, C.rk, E.rk, T.rk, key, List.map_cons, List.map_nil, List.cons_append, List.nil_append, List.length_cons, List.length_nil, Option.map_some, Option.bind_some, Nat.reduceAdd, Nat.zero_add, Nat.add_zero, Nat.add_sub_cancel_left, Int.toNat_natCast, reps, List.all_cons, List.all_nil, C.flat, List.append_eq, Bool.not_true, Bool.and_true, Bool.or_false, Bool.or_self, Bool.not_false, List.append_nil, Bool.and_self]) <;> rfl)
    (hle : leS n H1 σ N σ h0 (belsK N (h0.map (Fam.rk σ N)) (argsK n args (args0.map (T.rk σ N)) True)) := by repeat' first | refine And.intro ?_ ?_ | exact xeC | fail) : CallK P F args H K := CallK.mk3 hc hap hnl h1 hN hn hH hle hk
theorem xret {σ : List Sg} {H h' : List Fam} {v : T} {K : T → List Fam → Prop} {H' : List Fam} {v' : T} {N : Nat} (hk : K v' H') (hN : H.length = N := by (try simp only [↓List.length_cons, ↓List.length_nil, Nat.reduceAdd]) <;> rfl) (h : givesF σ N H σ h' = some H' := by (try simp (maxSteps := 1000000) only [givesF, setF, updF, Fam.zeroth, Fam.rk, Ck.rk, C.rk, E.rk, T.rk, key, List.map_cons, List.map_nil, List.cons_append, List.nil_append, List.length_cons, List.length_nil, Option.map_some, Option.bind_some, Nat.reduceAdd, Nat.zero_add, Nat.add_zero, Nat.add_sub_cancel_left, Int.toNat_natCast, reps, List.all_cons, List.all_nil, C.flat, List.append_eq, Bool.not_true, Bool.and_true, Bool.or_false, Bool.or_self, Bool.not_false, List.append_nil, Bool.and_self]) <;> rfl) (hv : v.rk σ N = v' := by (try simp only [givesF, setF, updF, Fam.zeroth, Fam.rk, Ck.rk, C.rk, E.rk, T.rk, key, List.map_cons, List.map_nil, List.cons_append, List.nil_append, List.length_cons, List.length_nil, Option.map_some, Option.bind_some, Nat.reduceAdd, Nat.zero_add, Nat.add_zero, Nat.add_sub_cancel_left, Int.toNat_natCast, reps, List.all_cons, List.all_nil, C.flat, List.append_eq, Bool.not_true, Bool.and_true, Bool.or_false, Bool.or_self, Bool.not_false, List.append_nil, Bool.and_self]) <;> rfl) : RetG σ H h' v K := ret_mk3 hN h hv hk
end Go.X
set_option linter.unusedVariables false
set_option linter.unusedSimpArgs false
namespace Go.X
open Go.Sort
structure SortLaw (P : Program) (F : Nat) {α : Type} [Inhabited α] (enc : α → Value) (srt : List α → List α) : Prop where
  some : ∀ (blk off cap : Nat) (zs : List α) (w : World), Holds enc w blk off zs.toArray → blk < w.heap.size → zs.length < 4611686018427387904 →
    Calls P F #[.slice (some ⟨blk, off, none⟩) zs.length cap] w fun e w' => e = .returned (.tuple #[]) ∧ ∃ n os, w' = grow (putRow enc (Sort.ahead w n) blk off (srt zs).toArray) os
  none : ∀ (p : Option Addr) (cap : Nat) (w : World), Calls P F #[.slice p 0 cap] w fun e w' => e = .returned (.tuple #[]) ∧ w' = w
  len : ∀ l, (srt l).length = l.length
theorem sort_heap {α : Type} [Inhabited α] {enc : α → Value} {w : World} {blk off n : Nat} {d : Array α} {os : Array Obj} (hblk : blk < w.heap.size) (b : Nat) (hb : b < w.heap.size) :
    (grow (putRow enc (Sort.ahead w n) blk off d) os).heap[b]? = if b = blk then (w.heap[b]?).map (onCells (putCells enc off d)) else w.heap[b]? := by
  unfold grow putRow mapBlock Sort.ahead
  simp only
  rw [Array.getElem?_append_left (by simpa using hb), Array.getElem?_modify]
  by_cases h : blk = b
  · subst h; simp
  · rw [if_neg h, if_neg (Ne.symm h)]
theorem sort_ctr {P : Program} {F : Nat} {α : Type} [Inhabited α] {enc : α → Value} {srt : List α → List α} (H : SortLaw P F enc srt)
    (hcf : ∀ (args : Array Value) (W : World), (callFunc F args).run P W = .ok (.enter F args) W) (cen : α → C) (hce : ∀ β x, (cen x).ren β = enc x) (hfl : ∀ x, (cen x).flat = true)
    (k : Bool) (e : Nat) (zs : List α) (c : Nat) (hz : zs.length < 4611686018427387904) :
    Ctr P F [.c (.sl 0 0 1 0 zs.length c)] [.one (.row true k e 1 zs.length c (rowOf (fun x => [cen x]) zs))] fun v h => v = .t [] ∧ h = [.one (.row true k e 1 zs.length c (rowOf (fun x => [cen x]) (srt zs)))] := by
  refine ⟨hcf, fun β W hfit => ?_⟩
  have hno : ∀ (ck : Ck) f x, ¬ (f = 0 ∧ x = 0) → get [.one ck] f x = .no := by
    intro ck f x h
    match f, x with
    | 0, 0 => exact absurd ⟨rfl, rfl⟩ h
    | 0, x + 1 => rfl
    | f + 1, x => simp [get]
  have h0 := hfit.ck 0 0
  have hrow : get [.one (.row true k e 1 zs.length c (rowOf (fun x => [cen x]) zs))] 0 0 = .row true k e 1 zs.length c (rowOf (fun x => [cen x]) zs) := rfl
  rw [hrow] at h0
  obtain ⟨h1, h2, h3, h4, h5⟩ := h0
  have hlen := H.len zs
  have fin : ∀ (W' : World), W.heap.size ≤ W'.heap.size → W'.os = W.os → W'.tape = W.tape → W'.output = W.output →
      (∀ b, b < W.heap.size → b ≠ (β 0 0).1 ∨ c = 0 → W'.heap[b]? = W.heap[b]?) →
      (Ck.row true k e 1 zs.length c (rowOf (fun x => [cen x]) (srt zs))).holds β W' (β 0 0) →
      ∃ v h' β', (v = T.t [] ∧ h' = [.one (.row true k e 1 zs.length c (rowOf (fun x => [cen x]) (srt zs)))]) ∧ Ending.returned (.tuple #[]) = .returned (v.ren β') ∧ v.bel h'.length ∧ Left β [.one (.row true k e 1 zs.length c (rowOf (fun x => [cen x]) zs))] W β' h' W' := by
    intro W' hs hos htp hou hfr hh
    refine ⟨_, _, β, ⟨rfl, rfl⟩, rfl, by simp [T.bel], ⟨Nat.le_refl _, fun _ _ _ => rfl, ⟨fun f x => ?_, fun f x g y hne ho hkn => ?_⟩, ⟨(fun i v hv => by cases hv), (fun f x => ?_)⟩, hos, htp, hou, hs, fun b hb hne => ?_, fun f x ho => ?_, fun f x ho => ?_⟩⟩
    · by_cases hf : f = 0 ∧ x = 0
      · obtain ⟨rfl, rfl⟩ := hf; exact hh
      · rw [hno _ f x hf]; trivial
    · by_cases hf : f = 0 ∧ x = 0
      · by_cases hg : g = 0 ∧ y = 0
        · exact absurd (by rw [hf.1, hf.2, hg.1, hg.2]) hne
        · rw [hno _ g y hg] at hkn; simp [Ck.known] at hkn
      · rw [hno _ f x hf] at ho; simp [Ck.owned] at ho
    · by_cases hf : f = 0 ∧ x = 0
      · obtain ⟨rfl, rfl⟩ := hf
        show (Ck.row true k e 1 zs.length c (rowOf (fun x => [cen x]) (srt zs))).bel 1
        intro i hi v hv
        simp only [rowOf, List.mem_singleton] at hv
        rw [hv]
        have hff : ∀ v : C, v.flat = true → v.bel 1 := by
          intro v hv
          cases v <;> first | trivial | cases hv | skip
          rename_i F l
          have : l = [] := by simpa [C.flat] using hv
          subst this
          simp [C.bel]
        exact hff _ (hfl _)
      · rw [hno _ f x hf]; trivial
    · by_cases hc : c = 0
      · exact hfr b hb (.inr hc)
      · exact hfr b hb (.inl fun e => hne 0 0 (row_owned hc) e.symm)
    · by_cases hf : f = 0 ∧ x = 0
      · obtain ⟨rfl, rfl⟩ := hf
        exact .inl ⟨0, 0, ho, rfl⟩
      · rw [hno _ f x hf] at ho; simp [Ck.owned] at ho
    · by_cases hf : f = 0 ∧ x = 0
      · obtain ⟨rfl, rfl⟩ := hf
        exact .inl ⟨0, 0, ho, rfl⟩
      · rw [hno _ f x hf] at ho; simp [Ck.known] at ho
  by_cases hz0 : zs.length = 0
  · have harg : ∃ p, ([T.c (.sl 0 0 1 0 zs.length c)].map (T.ren β)).toArray = #[.slice p 0 c] := by
      simp only [List.map_cons, List.map_nil, T.ren, C.ren, hz0]
      split
      · exact ⟨_, rfl⟩
      · exact ⟨_, rfl⟩
      · exact ⟨_, rfl⟩
    obtain ⟨p, hp⟩ := harg
    rw [hp]
    refine (H.none p c W).mono fun e' W' hh => ?_
    obtain ⟨rfl, rfl⟩ := hh
    refine fin W' (Nat.le_refl _) rfl rfl rfl (fun _ _ _ => rfl) ⟨h1, h2, fun _ i hi => by omega, fun i hi => by omega, fun hc => ?_⟩
    obtain ⟨cur, te, fz, hb, _, ho⟩ := h5 hc
    exact ⟨cur, te, fz, hb, fun i hi => by omega, ho⟩
  · have hc : c ≠ 0 := by omega
    have hlive := Fl.live_of fun h => hc (h2 h)
    obtain ⟨cur, te, fz, hb, hcells, ho⟩ := h5 hc
    obtain ⟨ho2, rfl, ho4, ho5⟩ := ho rfl
    have hblk : (β 0 0).1 < W.heap.size := (Array.getElem?_eq_some_iff.1 hb).1
    have harg : ([T.c (.sl 0 0 1 0 zs.length c)].map (T.ren β)).toArray = #[.slice (some ⟨(β 0 0).1, (β 0 0).2.1, Option.none⟩) zs.length c] := by
      simp only [List.map_cons, List.map_nil, T.ren, C.ren, hlive, place, Nat.zero_mul, Nat.add_zero]
    rw [harg]
    have hcell : ∀ j, W.cell? ⟨(β 0 0).1, (β 0 0).2.1 + j, Option.none⟩ = cur[(β 0 0).2.1 + j]? := fun j => cell_at hb
    have hH : Holds enc W (β 0 0).1 (β 0 0).2.1 zs.toArray := by
      intro j hj
      have hj' : j < zs.length := by simpa using hj
      refine ⟨?_, ?_⟩
      · rw [hcell]
        have := hcells j hj' 0 (cen (zs.getD j default)) rfl
        rw [show j * 1 + 0 = j by omega] at this
        rw [this, hce]
        simp [getD_at hj', hj']
      · unfold World.frozen?
        simp [hb]
    refine (H.some (β 0 0).1 (β 0 0).2.1 c zs W hH hblk hz).mono fun e' W' hh => ?_
    obtain ⟨rfl, n, os, rfl⟩ := hh
    have hheap := sort_heap (enc := enc) (w := W) (off := (β 0 0).2.1) (n := n) (d := (srt zs).toArray) (os := os) hblk
    refine fin _ (by simp [grow, putRow, mapBlock, Sort.ahead]) rfl rfl rfl (fun b hbs hne => ?_) ⟨h1, h2, fun _ i hi v hv => ?_, fun i hi => rfl, fun _ => ?_⟩
    · rw [hheap b hbs, if_neg (by rcases hne with h | h; exact h; exact absurd h hc)]
    · simp only [rowOf, List.mem_singleton] at hv
      rw [hv]; exact hfl _
    · refine ⟨putCells enc (β 0 0).2.1 (srt zs).toArray cur, te, (0, 0), ?_, fun i hi j v hj => ?_, fun _ => ⟨ho2, rfl, ho4, by simpa [putCells] using ho5⟩⟩
      · rw [hheap _ hblk, if_pos rfl, hb]; rfl
      · have hj0 : j = 0 := by
          have := (List.getElem?_eq_some_iff.1 hj).1
          simp [rowOf] at this; omega
        subst hj0
        simp only [rowOf, List.getElem?_cons_zero, Option.some.injEq] at hj
        subst hj
        have hi' : (β 0 0).2.1 + i < cur.size := by omega
        rw [show i * 1 + 0 = i by omega]
        unfold putCells
        rw [Array.getElem?_mapIdx, Array.getElem?_eq_getElem hi', Option.map_some, if_pos ⟨by omega, by simp [hlen]; omega⟩, hce]
        simp [getD_at (show i < (srt zs).length by omega), show i < (srt zs).length by omega]
end Go.X
namespace Go.X
set_option linter.unusedSectionVars false
section
variable {α : Type} [Inhabited α] (id : α → Nat) (ck : α → Ck)
variable {id ck}
def FlatR (ck : α → Ck) : Prop := ∀ t, ∃ w e z n c f, ck t = .row w false e z n c f
theorem flatR_le (hf : FlatR ck) {N : Nat} (t : α) : (ck t).leK N (ck t) True := by
  obtain ⟨w, e, z, n, c, f, h⟩ := hf t
  rw [h]
  cases w <;> (unfold Ck.leK; simp [sameB])
end
section
variable {α : Type} [Inhabited α]
def ixG (ck : α → Ck) (L : List α) (x : Nat) : Ck := if x < L.length then ck (L.getD x default) else .no
variable {ck : α → Ck}
theorem ixG_at {L : List α} {i : Nat} (hi : i < L.length) : ixG ck L i = ck (L.getD i default) := if_pos hi
theorem ixG_app {L : List α} {t : α} (x : Nat) : ixG ck (L ++ [t]) x = if x = L.length then ck t else ixG ck L x := by
  unfold ixG
  rw [List.length_append, List.length_singleton]
  by_cases h : x = L.length
  · subst h; rw [if_pos (by omega), if_pos rfl]; simp [List.getD]
  · rw [if_neg h]
    by_cases h' : x < L.length
    · rw [if_pos (by omega), if_pos h']; simp [List.getD, List.getElem?_append_left h']
    · rw [if_neg (by omega), if_neg h']
theorem ixG_set {L : List α} {k : Nat} {t : α} (hk : k < L.length) (x : Nat) : ixG ck (L.set k t) x = if x = k then ck t else ixG ck L x := by
  unfold ixG
  rw [List.length_set]
  by_cases h : x = k
  · subst h; rw [if_pos hk, if_pos rfl, getD_set _ _ _ _ hk, if_pos rfl]
  · rw [if_neg h, getD_set _ _ _ _ hk, if_neg h]
theorem ixG_rk (hf : FlatR ck) (σ : List Sg) (N : Nat) (L : List α) (x : Nat) : (ixG ck L x).rk σ N = ixG ck L x := by
  unfold ixG
  split
  · obtain ⟨w, e, z, n, c, f, h⟩ := hf (L.getD x default)
    rw [h]; rfl
  · rfl
theorem ixG_le (hf : FlatR ck) {σ : List Sg} {N N' : Nat} {L : List α} {x : Nat} : (ixG ck L x).leK N ((ixG ck L x).rk σ N') True := by
  rw [ixG_rk hf]
  unfold ixG
  split
  · exact flatR_le hf _
  · trivial
theorem ixG_bel (hf : FlatR ck) {n : Nat} {L : List α} {x : Nat} : (ixG ck L x).belK n True := by
  unfold ixG
  split
  · obtain ⟨w, e, z, m, c, f, h⟩ := hf (L.getD x default)
    rw [h]
    trivial
  · trivial
theorem ixG_belR (hf : FlatR ck) {σ : List Sg} {n N : Nat} {L : List α} {x : Nat} : ((ixG ck L x).rk σ N).belK n True := by
  rw [ixG_rk hf]; exact ixG_bel hf
theorem ixG_leA (hf : FlatR ck) {σ : List Sg} {N N' : Nat} {L : List α} {t : α} {x : Nat} (h : x ≠ L.length) : (ixG ck L x).leK N ((ixG ck (L ++ [t]) x).rk σ N') True := by
  rw [ixG_app, if_neg h]; exact ixG_le hf
theorem ixG_leAn (hf : FlatR ck) {σ : List Sg} {N N' : Nat} {L : List α} {t : α} {q : Ck} {A : Prop} (h : q.leK N (ck t) A) : q.leK N ((ixG ck (L ++ [t]) L.length).rk σ N') A := by
  rw [ixG_rk hf, ixG_app, if_pos rfl]; exact h
theorem ixG_leS (hf : FlatR ck) {σ : List Sg} {N N' : Nat} {L : List α} {k : Nat} {t : α} {x : Nat} (hk : k < L.length) (h : x ≠ k) : (ixG ck L x).leK N ((ixG ck (L.set k t) x).rk σ N') True := by
  rw [ixG_set hk, if_neg h]; exact ixG_le hf
theorem ixG_leSn (hf : FlatR ck) {σ : List Sg} {N N' : Nat} {L : List α} {k : Nat} {t : α} {q : Ck} {A : Prop} (hk : k < L.length) (h : q.leK N (ck t) A) : q.leK N ((ixG ck (L.set k t) k).rk σ N') A := by
  rw [ixG_rk hf, ixG_set hk, if_pos rfl]; exact h
theorem ixG_leC (hf : FlatR ck) {σ : List Sg} {N N' : Nat} {L : List α} {k : Nat} {t : α} {x : Nat} (hk : k < L.length) (h : x ≠ k) : ((fun y => if y = k then Ck.no else ixG ck L y) x).leK N ((ixG ck (L.set k t) x).rk σ N') True := by
  show (if x = k then Ck.no else ixG ck L x).leK N _ True
  rw [if_neg h]; exact ixG_leS hf hk h
theorem ixG_leB (hf : FlatR ck) {σ : List Sg} {N N' : Nat} {L : List α} {k : Nat} {q : Ck} (hk : k < L.length) (x : Nat) : ((fun y => if y = k then ck (L.getD k default) else if y = k then q else ixG ck L y) x).leK N ((ixG ck L x).rk σ N') True := by
  show (if x = k then ck (L.getD k default) else if x = k then q else ixG ck L x).leK N _ True
  by_cases h : x = k
  · subst h; rw [if_pos rfl, show ck (L.getD x default) = ixG ck L x from (ixG_at hk).symm]; exact ixG_le hf
  · rw [if_neg h, if_neg h]; exact ixG_le hf
theorem ixG_leB1 (hf : FlatR ck) {σ : List Sg} {N N' : Nat} {L : List α} {k : Nat} (hk : k < L.length) (x : Nat) : ((fun y => if y = k then ck (L.getD k default) else ixG ck L y) x).leK N ((ixG ck L x).rk σ N') True := by
  show (if x = k then ck (L.getD k default) else ixG ck L x).leK N _ True
  by_cases h : x = k
  · subst h; rw [if_pos rfl, show ck (L.getD x default) = ixG ck L x from (ixG_at hk).symm]; exact ixG_le hf
  · rw [if_neg h]; exact ixG_le hf
end
end Go.X
set_option linter.unusedVariables false
set_option linter.unusedSimpArgs false
namespace Go.X
open Go.Sort
structure TurnLaw (P : Program) (F : Nat) {α : Type} [Inhabited α] (enc : α → Value) (srt : List α → List α) (m : List α → Nat) : Prop where
  some : ∀ (blk off cap : Nat) (zs : List α) (w : World), Holds enc w blk off zs.toArray → blk < w.heap.size → zs.length < 4611686018427387904 → zs.length ≤ cap →
    Calls P F #[.slice (some ⟨blk, off, none⟩) zs.length cap] w fun e w' => e = .returned (.slice (some ⟨blk, off, none⟩) (m zs) cap) ∧ ∃ n os, w' = grow (putRow enc (Sort.ahead w n) blk off (srt zs).toArray) os
  none : ∀ (p : Option Addr) (cap : Nat) (w : World), Calls P F #[.slice p 0 cap] w fun e w' => e = .returned (.slice p 0 cap) ∧ w' = w
  len : ∀ l, (srt l).length = l.length
  le : ∀ l, m l ≤ l.length
theorem turn_ctr {P : Program} {F : Nat} {α : Type} [Inhabited α] {enc : α → Value} {srt : List α → List α} {m : List α → Nat} (H : TurnLaw P F enc srt m)
    (hcf : ∀ (args : Array Value) (W : World), (callFunc F args).run P W = .ok (.enter F args) W) (cen : α → C) (hce : ∀ β x, (cen x).ren β = enc x) (hfl : ∀ x, (cen x).flat = true)
    (k : Bool) (e : Nat) (zs : List α) (c : Nat) (hz : zs.length < 4611686018427387904) :
    Ctr P F [.c (.sl 0 0 1 0 zs.length c)] [.one (.row true k e 1 zs.length c (rowOf (fun x => [cen x]) zs))] fun v h => v = .c (.sl 0 0 1 0 (m zs) c) ∧ h = [.one (.row true k e 1 zs.length c (rowOf (fun x => [cen x]) (srt zs)))] := by
  refine ⟨hcf, fun β W hfit => ?_⟩
  have hno : ∀ (ck : Ck) f x, ¬ (f = 0 ∧ x = 0) → get [.one ck] f x = .no := by
    intro ck f x h
    match f, x with
    | 0, 0 => exact absurd ⟨rfl, rfl⟩ h
    | 0, x + 1 => rfl
    | f + 1, x => simp [get]
  have h0 := hfit.ck 0 0
  have hrow : get [.one (.row true k e 1 zs.length c (rowOf (fun x => [cen x]) zs))] 0 0 = .row true k e 1 zs.length c (rowOf (fun x => [cen x]) zs) := rfl
  rw [hrow] at h0
  obtain ⟨h1, h2, h3, h4, h5⟩ := h0
  have hlen := H.len zs
  have fin : ∀ (W' : World) (r : Value), r = (T.c (.sl 0 0 1 0 (m zs) c)).ren β → W.heap.size ≤ W'.heap.size → W'.os = W.os → W'.tape = W.tape → W'.output = W.output →
      (∀ b, b < W.heap.size → b ≠ (β 0 0).1 ∨ c = 0 → W'.heap[b]? = W.heap[b]?) →
      (Ck.row true k e 1 zs.length c (rowOf (fun x => [cen x]) (srt zs))).holds β W' (β 0 0) →
      ∃ v h' β', (v = T.c (.sl 0 0 1 0 (m zs) c) ∧ h' = [.one (.row true k e 1 zs.length c (rowOf (fun x => [cen x]) (srt zs)))]) ∧ Ending.returned r = .returned (v.ren β') ∧ v.bel h'.length ∧ Left β [.one (.row true k e 1 zs.length c (rowOf (fun x => [cen x]) zs))] W β' h' W' := by
    intro W' r hrr hs hos htp hou hfr hh
    refine ⟨_, _, β, ⟨rfl, rfl⟩, by rw [hrr], by simp [T.bel, C.bel], ⟨Nat.le_refl _, fun _ _ _ => rfl, ⟨fun f x => ?_, fun f x g y hne ho hkn => ?_⟩, ⟨(fun i v hv => by cases hv), (fun f x => ?_)⟩, hos, htp, hou, hs, fun b hb hne => ?_, fun f x ho => ?_, fun f x ho => ?_⟩⟩
    · by_cases hf : f = 0 ∧ x = 0
      · obtain ⟨rfl, rfl⟩ := hf; exact hh
      · rw [hno _ f x hf]; trivial
    · by_cases hf : f = 0 ∧ x = 0
      · by_cases hg : g = 0 ∧ y = 0
        · exact absurd (by rw [hf.1, hf.2, hg.1, hg.2]) hne
        · rw [hno _ g y hg] at hkn; simp [Ck.known] at hkn
      · rw [hno _ f x hf] at ho; simp [Ck.owned] at ho
    · by_cases hf : f = 0 ∧ x = 0
      · obtain ⟨rfl, rfl⟩ := hf
        show (Ck.row true k e 1 zs.length c (rowOf (fun x => [cen x]) (srt zs))).bel 1
        intro i hi v hv
        simp only [rowOf, List.mem_singleton] at hv
        rw [hv]
        have hff : ∀ v : C, v.flat = true → v.bel 1 := by
          intro v hv
          cases v <;> first | trivial | cases hv | skip
          rename_i F l
          have : l = [] := by simpa [C.flat] using hv
          subst this
          simp [C.bel]
        exact hff _ (hfl _)
      · rw [hno _ f x hf]; trivial
    · by_cases hc : c = 0
      · exact hfr b hb (.inr hc)
      · exact hfr b hb (.inl fun e => hne 0 0 (row_owned hc) e.symm)
    · by_cases hf : f = 0 ∧ x = 0
      · obtain ⟨rfl, rfl⟩ := hf
        exact .inl ⟨0, 0, ho, rfl⟩
      · rw [hno _ f x hf] at ho; simp [Ck.owned] at ho
    · by_cases hf : f = 0 ∧ x = 0
      · obtain ⟨rfl, rfl⟩ := hf
        exact .inl ⟨0, 0, ho, rfl⟩
      · rw [hno _ f x hf] at ho; simp [Ck.known] at ho
  by_cases hz0 : zs.length = 0
  · have harg : ∃ p, ([T.c (.sl 0 0 1 0 zs.length c)].map (T.ren β)).toArray = #[.slice p 0 c] := by
      simp only [List.map_cons, List.map_nil, T.ren, C.ren, hz0]
      split
      · exact ⟨_, rfl⟩
      · exact ⟨_, rfl⟩
      · exact ⟨_, rfl⟩
    obtain ⟨p, hp⟩ := harg
    have hm0 : m zs = 0 := by have := H.le zs; omega
    have hz0' : ∀ p, ([T.c (.sl 0 0 1 0 zs.length c)].map (T.ren β)).toArray = #[.slice p 0 c] → Value.slice p 0 c = (T.c (.sl 0 0 1 0 (m zs) c)).ren β := fun p h => by
      rw [hz0] at h
      rw [hm0]
      have h2 := congrArg Array.toList h
      simpa using h2.symm
    rw [hp]
    refine (H.none p c W).mono fun e' W' hh => ?_
    obtain ⟨rfl, rfl⟩ := hh
    refine fin W' _ (hz0' p hp) (Nat.le_refl _) rfl rfl rfl (fun _ _ _ => rfl) ⟨h1, h2, fun _ i hi => by omega, fun i hi => by omega, fun hc => ?_⟩
    obtain ⟨cur, te, fz, hb, _, ho⟩ := h5 hc
    exact ⟨cur, te, fz, hb, fun i hi => by omega, ho⟩
  · have hc : c ≠ 0 := by omega
    have hlive := Fl.live_of fun h => hc (h2 h)
    obtain ⟨cur, te, fz, hb, hcells, ho⟩ := h5 hc
    obtain ⟨ho2, rfl, ho4, ho5⟩ := ho rfl
    have hblk : (β 0 0).1 < W.heap.size := (Array.getElem?_eq_some_iff.1 hb).1
    have harg : ([T.c (.sl 0 0 1 0 zs.length c)].map (T.ren β)).toArray = #[.slice (some ⟨(β 0 0).1, (β 0 0).2.1, Option.none⟩) zs.length c] := by
      simp only [List.map_cons, List.map_nil, T.ren, C.ren, hlive, place, Nat.zero_mul, Nat.add_zero]
    rw [harg]
    have hcell : ∀ j, W.cell? ⟨(β 0 0).1, (β 0 0).2.1 + j, Option.none⟩ = cur[(β 0 0).2.1 + j]? := fun j => cell_at hb
    have hH : Holds enc W (β 0 0).1 (β 0 0).2.1 zs.toArray := by
      intro j hj
      have hj' : j < zs.length := by simpa using hj
      refine ⟨?_, ?_⟩
      · rw [hcell]
        have := hcells j hj' 0 (cen (zs.getD j default)) rfl
        rw [show j * 1 + 0 = j by omega] at this
        rw [this, hce]
        simp [getD_at hj', hj']
      · unfold World.frozen?
        simp [hb]
    refine (H.some (β 0 0).1 (β 0 0).2.1 c zs W hH hblk hz h1).mono fun e' W' hh => ?_
    obtain ⟨rfl, n, os, rfl⟩ := hh
    have hheap := sort_heap (enc := enc) (w := W) (off := (β 0 0).2.1) (n := n) (d := (srt zs).toArray) (os := os) hblk
    refine fin _ _ (by simp only [T.ren, C.ren, hlive, place, Nat.zero_mul, Nat.add_zero]) (by simp [grow, putRow, mapBlock, Sort.ahead]) rfl rfl rfl (fun b hbs hne => ?_) ⟨h1, h2, fun _ i hi v hv => ?_, fun i hi => rfl, fun _ => ?_⟩
    · rw [hheap b hbs, if_neg (by rcases hne with h | h; exact h; exact absurd h hc)]
    · simp only [rowOf, List.mem_singleton] at hv
      rw [hv]; exact hfl _
    · refine ⟨putCells enc (β 0 0).2.1 (srt zs).toArray cur, te, (0, 0), ?_, fun i hi j v hj => ?_, fun _ => ⟨ho2, rfl, ho4, by simpa [putCells] using ho5⟩⟩
      · rw [hheap _ hblk, if_pos rfl, hb]; rfl
      · have hj0 : j = 0 := by
          have := (List.getElem?_eq_some_iff.1 hj).1
          simp [rowOf] at this; omega
        subst hj0
        simp only [rowOf, List.getElem?_cons_zero, Option.some.injEq] at hj
        subst hj
        have hi' : (β 0 0).2.1 + i < cur.size := by omega
        rw [show i * 1 + 0 = i by omega]
        unfold putCells
        rw [Array.getElem?_mapIdx, Array.getElem?_eq_getElem hi', Option.map_some, if_pos ⟨by omega, by simp [hlen]; omega⟩, hce]
        simp [getD_at (show i < (srt zs).length by omega), show i < (srt zs).length by omega]
end Go.X
namespace Go.Proofs.Ytkjkbpnhocjenaa
open Go.X
set_option maxRecDepth 100000
def tb : Tb := [
  (3, ⟨1, 8, .int .i64, [.i .i64 0], true, []⟩),
  (4, ⟨1, 1, .bool, [.ff], true, []⟩),
  (5, ⟨1, 1, .int .u8, [.i .u8 0], true, []⟩),
  (9, ⟨1, 16, .str, [.s ⟨#[]⟩], true, []⟩),
  (22, ⟨1, 24, .slice 34, [.nils], true, []⟩),
  (25, ⟨1, 8, .ptr, [.nilp], true, []⟩),
  (26, ⟨1, 8, .int .i64, [.i .i64 0], true, []⟩),
  (34, ⟨3, 40, .struct [(0, 3, 1), (1, 9, 1), (2, 9, 1)], [.i .i64 0, .s ⟨#[]⟩, .s ⟨#[]⟩], true, [.int .i64, .str, .str]⟩),
  (41, ⟨1, 8, .ptr, [.nilp], true, []⟩),
  (45, ⟨1, 24, .slice 9, [.nils], true, []⟩),
  (65, ⟨1, 24, .slice 73, [.nils], true, []⟩),
  (67, ⟨5, 56, .struct [(0, 3, 1), (1, 3, 1), (2, 3, 1), (3, 4, 1), (4, 65, 1)], [.i .i64 0, .i .i64 0, .i .i64 0, .ff, .nils], true, []⟩),
  (68, ⟨1, 24, .slice 77, [.nils], true, []⟩),
  (70, ⟨4, 48, .struct [(0, 3, 1), (1, 68, 1), (2, 3, 1), (3, 4, 1)], [.i .i64 0, .nils, .i .i64 0, .ff], true, []⟩),
  (73, ⟨2, 40, .struct [(0, 22, 1), (1, 9, 1)], [.nils, .s ⟨#[]⟩], true, []⟩),
  (77, ⟨1, 24, .struct [(0, 22, 1)], [.nils], true, []⟩),
  (81, ⟨1, 8, .int .u64, [.i .u64 0], true, []⟩),
  (82, ⟨1, 8, .int .u64, [.i .u64 0], true, []⟩),
  (84, ⟨1, 24, .slice 92, [.nils], true, []⟩),
  (89, ⟨3, 48, .struct [(0, 9, 1), (1, 84, 1), (2, 3, 1)], [.s ⟨#[]⟩, .nils, .i .i64 0], true, []⟩),
  (90, ⟨1, 24, .slice 3, [.nils], true, []⟩),
  (92, ⟨5, 72, .struct [(0, 3, 1), (1, 3, 1), (2, 3, 1), (3, 45, 1), (4, 90, 1)], [.i .i64 0, .i .i64 0, .i .i64 0, .nils, .nils], true, []⟩),
  (95, ⟨1, 24, .slice 102, [.nils], true, []⟩),
  (99, ⟨3, 48, .struct [(0, 9, 1), (1, 3, 1), (2, 95, 1)], [.s ⟨#[]⟩, .i .i64 0, .nils], true, []⟩),
  (100, ⟨1, 24, .slice 105, [.nils], true, []⟩),
  (102, ⟨4, 48, .struct [(0, 3, 1), (1, 3, 1), (2, 3, 1), (3, 100, 1)], [.i .i64 0, .i .i64 0, .i .i64 0, .nils], true, []⟩),
  (105, ⟨2, 24, .struct [(0, 9, 1), (1, 3, 1)], [.s ⟨#[]⟩, .i .i64 0], true, [.str, .int .i64]⟩),
  (109, ⟨1, 8, .ptr, [.nilp], true, []⟩),
  (116, ⟨3, 32, .struct [(0, 9, 1), (1, 3, 1), (2, 26, 1)], [.s ⟨#[]⟩, .i .i64 0, .i .i64 0], true, [.str, .int .i64, .int .i64]⟩),
  (123, ⟨1, 24, .slice 5, [.nils], true, []⟩),
  (137, ⟨1, 8, .map 9 3, [.nilm], true, []⟩),
  (141, ⟨3, 32, .struct [(0, 9, 1), (1, 3, 1), (2, 26, 1)], [.s ⟨#[]⟩, .i .i64 0, .i .i64 0], true, [.str, .int .i64, .int .i64]⟩),
  (150, ⟨10, 10, .array 10 5, [.i .u8 0, .i .u8 0, .i .u8 0, .i .u8 0, .i .u8 0, .i .u8 0, .i .u8 0, .i .u8 0, .i .u8 0, .i .u8 0], true, [.int .u8, .int .u8, .int .u8, .int .u8, .int .u8, .int .u8, .int .u8, .int .u8, .int .u8, .int .u8]⟩),
  (151, ⟨8, 8, .array 8 5, [.i .u8 0, .i .u8 0, .i .u8 0, .i .u8 0, .i .u8 0, .i .u8 0, .i .u8 0, .i .u8 0], true, [.int .u8, .int .u8, .int .u8, .int .u8, .int .u8, .int .u8, .int .u8, .int .u8]⟩),
  (153, ⟨1, 4, .int .u32, [.i .u32 0], true, []⟩),
  (156, ⟨1, 8, .int .i64, [.i .i64 0], true, []⟩)]
theorem tbv : Valid tb Try.prog := Valid.mk (by kernel_rfl)
theorem mixed : Try.prog.follows .mixedOrders = true := by kernel_rfl
end Go.Proofs.Ytkjkbpnhocjenaa
namespace Go.Proofs.Ytkjkbpnhocjenaa
open Go.RowKit
namespace P4
def vE : Nat → Nat → List UInt8
  | 0, n => [UInt8.ofNat n]
  | k + 1, n => if n < 128 then [UInt8.ofNat n] else UInt8.ofNat (128 + n % 128) :: vE k (n / 128)
def venc (n : Nat) : List UInt8 := vE 9 n
def vD : Nat → Nat → List UInt8 → Nat → Nat × Nat × Nat
  | 0, _, _, _ => (0, 0, 2)
  | _ + 1, _, [], _ => (0, 0, 1)
  | r + 1, i, c :: l, acc =>
    if r = 0 ∧ 1 < c.toNat then (0, 0, 2)
    else if 128 ≤ c.toNat then vD r (i + 1) l (acc + c.toNat % 128 * 128 ^ i)
    else if c.toNat = 0 ∧ 0 < i then (0, 0, 2)
    else (acc + c.toNat % 128 * 128 ^ i, i + 1, 0)
def vdec (l : List UInt8) : Nat × Nat × Nat := vD 10 0 l 0
theorem ofNat_lt {n : Nat} (h : n < 256) : (UInt8.ofNat n).toNat = n := by rw [UInt8.toNat_ofNat', Nat.mod_eq_of_lt h]
theorem vE_pos (r n : Nat) : 1 ≤ (vE r n).length := by
  cases r with
  | zero => exact Nat.le_refl _
  | succ r => unfold vE; split <;> simp
theorem vE_le (r : Nat) : ∀ n, (vE r n).length ≤ r + 1 := by
  induction r with
  | zero => intro n; exact Nat.le_refl _
  | succ r ih => intro n; unfold vE; split
                 · simp
                 · rw [List.length_cons]; have := ih (n / 128); omega
theorem dec_enc (r : Nat) : ∀ (i n acc : Nat) (l : List UInt8), n < 2 * 128 ^ r → (i = 0 ∨ 0 < n) → vD (r + 1) i (vE r n ++ l) acc = (acc + n * 128 ^ i, i + (vE r n).length, 0) := by
  induction r with
  | zero =>
    intro i n acc l hn hi
    have hn2 : n < 2 := by simpa using hn
    have e : (UInt8.ofNat n).toNat = n := ofNat_lt (by omega)
    show (if 0 = 0 ∧ 1 < (UInt8.ofNat n).toNat then _ else _) = _
    rw [e, if_neg (by omega), if_neg (by omega), if_neg (by omega), Nat.mod_eq_of_lt (by omega)]
    rfl
  | succ r ih =>
    intro i n acc l hn hi
    by_cases h : n < 128
    · have e : (UInt8.ofNat n).toNat = n := ofNat_lt (by omega)
      rw [show vE (r + 1) n = [UInt8.ofNat n] from by unfold vE; rw [if_pos h]]
      show (if r + 1 = 0 ∧ 1 < (UInt8.ofNat n).toNat then _ else _) = _
      rw [e, if_neg (by omega), if_neg (by omega), if_neg (by omega), Nat.mod_eq_of_lt h]
      rfl
    · have e : (UInt8.ofNat (128 + n % 128)).toNat = 128 + n % 128 := ofNat_lt (by omega)
      rw [show vE (r + 1) n = UInt8.ofNat (128 + n % 128) :: vE r (n / 128) from by conv => lhs; unfold vE; rw [if_neg h]]
      show (if r + 1 = 0 ∧ 1 < (UInt8.ofNat (128 + n % 128)).toNat then _ else if 128 ≤ (UInt8.ofNat (128 + n % 128)).toNat then vD (r + 1) (i + 1) (vE r (n / 128) ++ l) (acc + (UInt8.ofNat (128 + n % 128)).toNat % 128 * 128 ^ i) else _) = _
      rw [e, if_neg (by omega), if_pos (by omega), ih (i + 1) (n / 128) _ l (by rw [Nat.pow_succ] at hn; omega) (.inr (by omega))]
      rw [show (128 + n % 128) % 128 = n % 128 from by omega, Nat.pow_succ]
      have key : acc + n % 128 * 128 ^ i + n / 128 * (128 ^ i * 128) = acc + n * 128 ^ i := by
        rw [Nat.add_assoc, show n / 128 * (128 ^ i * 128) = (n / 128 * 128) * 128 ^ i from by ac_rfl, ← Nat.add_mul]
        congr 2
        omega
      rw [key, List.length_cons]
      congr 2
      omega
theorem enc_dec (r : Nat) : ∀ (i : Nat) (l : List UInt8) (acc n k : Nat), vD (r + 1) i l acc = (n, k, 0) →
    ∃ m, n = acc + m * 128 ^ i ∧ m < 2 * 128 ^ r ∧ (0 < i → 0 < m) ∧ k = i + (vE r m).length ∧ (vE r m).length ≤ l.length ∧ l.take (vE r m).length = vE r m := by
  induction r with
  | zero =>
    intro i l acc n k h
    match l, h with
    | [], h => simp [vD] at h
    | c :: l, h =>
      simp only [vD] at h
      by_cases h1 : 1 < c.toNat
      · rw [if_pos ⟨trivial, h1⟩] at h; simp at h
      · rw [if_neg (by omega), if_neg (by omega)] at h
        by_cases h2 : c.toNat = 0 ∧ 0 < i
        · rw [if_pos h2] at h; simp at h
        · rw [if_neg h2] at h
          simp only [Prod.mk.injEq] at h
          have ec : UInt8.ofNat c.toNat = c := by simp
          refine ⟨c.toNat, ?_, by omega, by omega, by rw [← h.2.1]; rfl, by simp [vE], by simp [vE]⟩
          rw [← h.1, Nat.mod_eq_of_lt (by omega)]
  | succ r ih =>
    intro i l acc n k h
    match l, h with
    | [], h => simp [vD] at h
    | c :: l, h =>
      have hc := c.toNat_lt
      rw [vD, if_neg (by omega)] at h
      by_cases h2 : 128 ≤ c.toNat
      · rw [if_pos h2] at h
        obtain ⟨m, h3, h4, h5, h6, h7, h8⟩ := ih _ _ _ _ _ h
        have hm : 0 < m := h5 (by omega)
        have em : vE (r + 1) (128 * m + c.toNat % 128) = c :: vE r m := by
          conv => lhs; unfold vE
          rw [if_neg (by omega), show (128 * m + c.toNat % 128) / 128 = m from by omega, show 128 + (128 * m + c.toNat % 128) % 128 = c.toNat from by omega]
          simp
        refine ⟨128 * m + c.toNat % 128, ?_, ?_, by omega, ?_, ?_, ?_⟩
        · rw [h3, Nat.pow_succ, Nat.add_mul, Nat.add_assoc, Nat.add_comm (128 * m * 128 ^ i)]
          congr 2
          ac_rfl
        · rw [Nat.pow_succ]; omega
        · rw [em, h6, List.length_cons]; omega
        · rw [em, List.length_cons, List.length_cons]; omega
        · rw [em, List.length_cons, List.take_succ_cons, h8]
      · rw [if_neg h2] at h
        by_cases h3 : c.toNat = 0 ∧ 0 < i
        · rw [if_pos h3] at h; simp at h
        · rw [if_neg h3] at h
          simp only [Prod.mk.injEq] at h
          have ec : vE (r + 1) c.toNat = [c] := by unfold vE; rw [if_pos (by omega)]; simp
          refine ⟨c.toNat, by rw [← h.1, Nat.mod_eq_of_lt (by omega)], ?_, by omega, by rw [← h.2.1, ec]; rfl, by rw [ec]; simp, by rw [ec]; simp⟩
          have : 128 ^ (r + 1) ≥ 128 := by rw [Nat.pow_succ]; have := Nat.pow_pos (n := r) (show 0 < 128 by decide); omega
          omega
theorem vD_err (r : Nat) : ∀ (i : Nat) (l : List UInt8) (acc : Nat), (vD r i l acc).2.2 = 0 ∨ vD r i l acc = (0, 0, 1) ∨ vD r i l acc = (0, 0, 2) := by
  induction r with
  | zero => intro i l acc; exact .inr (.inr rfl)
  | succ r ih =>
    intro i l acc
    match l with
    | [] => exact .inr (.inl rfl)
    | c :: l =>
      rw [vD]
      split
      · exact .inr (.inr rfl)
      · split
        · exact ih _ _ _
        · split
          · exact .inr (.inr rfl)
          · exact .inl rfl
theorem vdec_enc (n : Nat) (l : List UInt8) (h : n < 18446744073709551616) : vdec (venc n ++ l) = (n, (venc n).length, 0) := by
  have := dec_enc 9 0 n 0 l (by omega) (.inl rfl)
  unfold vdec venc
  rw [this]
  simp
theorem vdec_ok {l : List UInt8} {n k : Nat} (h : vdec l = (n, k, 0)) : n < 18446744073709551616 ∧ k = (venc n).length ∧ k ≤ l.length ∧ l.take k = venc n ∧ 1 ≤ k := by
  obtain ⟨m, h1, h2, _, h3, h4, h5⟩ := enc_dec 9 0 l 0 n k h
  have hm : n = m := by simpa using h1
  subst hm
  have hk : k = (vE 9 n).length := by omega
  have := vE_pos 9 n
  refine ⟨by omega, hk, by omega, by rw [hk]; exact h5, by omega⟩
theorem vdec_err (l : List UInt8) : (vdec l).2.2 = 0 ∨ vdec l = (0, 0, 1) ∨ vdec l = (0, 0, 2) := vD_err 10 0 l 0
def zz (m : Int) : Nat := if m < 0 then (2 * -(m + 1) + 1).toNat else (2 * m).toNat
theorem xor_comm (k : IntKind) (x y : Int) : bits .xor k x y = bits .xor k y x := by
  unfold bits
  simp [BitVec.xor_comm]
theorem or128 (m : Nat) : bits .or .u8 ((m : Int) % 256) 128 = ((UInt8.ofNat (128 + m % 128)).toNat : Int) := by
  have h : ∀ x : Fin 256, x.val ||| 128 = 128 + x.val % 128 := by decide +kernel
  have e := h ⟨m % 256, by omega⟩
  rw [show ((m : Int) % 256) = ((m % 256 : Nat) : Int) from by omega, show (128 : Int) = ((128 : Nat) : Int) from rfl, u8_or_nat _ _ (by omega) (by omega), ofNat_lt (by omega)]
  simp only at e
  rw [e]
  congr 2
  omega
theorem pow128 (k : Nat) : 128 ^ k = 2 ^ (7 * k) := by rw [Nat.pow_mul]
theorem and127 (c : UInt8) : bits .and .u8 (c.toNat : Int) 127 = ((c.toNat % 128 : Nat) : Int) := by
  rw [show (127 : Int) = ((127 : Nat) : Int) from rfl, u8_and_nat _ _ c.toNat_lt (by omega), nat_mask7]
theorem orstep (a k : Nat) (c : UInt8) (ha : a < 128 ^ k) (hk : k ≤ 8 ∨ (k = 9 ∧ c.toNat ≤ 1)) :
    bits .or .u64 (a : Int) (IntKind.u64.wrap (IntKind.u64.wrap (bits .and .u8 (c.toNat : Int) 127) * 2 ^ (7 * k))) = ((a + c.toNat % 128 * 128 ^ k : Nat) : Int) := by
  have h1 : IntKind.u64.wrap (((c.toNat % 128 : Nat) : Int)) = ((c.toNat % 128 : Nat) : Int) := by rw [IntKind.wrap_u64]; omega
  have hlim : c.toNat % 128 * 128 ^ k < 18446744073709551616 ∧ 128 ^ k < 18446744073709551616 := by
    rcases hk with hk | ⟨rfl, hc⟩
    · have h2 : 128 ^ k ≤ 128 ^ 8 := Nat.pow_le_pow_right (by decide) hk
      have h3 : c.toNat % 128 * 128 ^ k ≤ 127 * 128 ^ 8 := Nat.mul_le_mul (by omega) h2
      omega
    · have h3 : c.toNat % 128 ≤ 1 := by omega
      have h4 : c.toNat % 128 * 128 ^ 9 ≤ 1 * 128 ^ 9 := Nat.mul_le_mul_right _ h3
      omega
  have h2 : ((c.toNat % 128 : Nat) : Int) * 2 ^ (7 * k) = ((c.toNat % 128 * 128 ^ k : Nat) : Int) := by rw [pow128]; simp
  rw [and127, h1, h2, IntKind.wrap_u64]
  have h5 : (((c.toNat % 128 * 128 ^ k : Nat) : Int) % 18446744073709551616) = ((c.toNat % 128 * 128 ^ k : Nat) : Int) := by
    have := hlim.1
    omega
  rw [h5, u64_or_nat _ _ (by omega) hlim.1, Nat.or_comm, nat_join (7 * k) _ _ (by rw [← pow128]; exact Nat.mul_mod_left _ _) (by rw [← pow128]; exact ha), Nat.add_comm]
end P4
end Go.Proofs.Ytkjkbpnhocjenaa
namespace Go.Proofs.Ytkjkbpnhocjenaa
open Go.X
set_option linter.unusedSimpArgs false
set_option linter.unusedVariables false
namespace P4
def tri (x : Nat × Nat × Nat) : T := .t [.c (.i .u64 (x.1 : Nat)), .c (.i .i64 (x.2.1 : Nat)), .c (.i .i64 (x.2.2 : Nat))]
def triR (a : Nat) (x : Nat × Nat × Nat) : T := .t [.c (.i .u64 (x.1 : Nat)), .c (.i .i64 (a + x.2.1 : Nat)), .c (.i .i64 (x.2.2 : Nat))]
theorem drop_cons {s : ByteArray} {k : Nat} (h : k < s.size) : s.data.toList.drop k = s.get! k :: s.data.toList.drop (k + 1) := by
  have h' : k < s.data.toList.length := by simpa using h
  rw [List.drop_eq_getElem_cons h']
  congr 1
  simp [ByteArray.get!, getElem!_pos, h]
theorem vd_at {s : ByteArray} {p k a : Nat} (hk : k ≤ 9) (h : p < s.size) : vD (10 - k) k (s.data.toList.drop p) a =
    if 9 - k = 0 ∧ 1 < (s.get! p).toNat then (0, 0, 2) else if 128 ≤ (s.get! p).toNat then vD (9 - k) (k + 1) (s.data.toList.drop (p + 1)) (a + (s.get! p).toNat % 128 * 128 ^ k)
    else if (s.get! p).toNat = 0 ∧ 0 < k then (0, 0, 2) else (a + (s.get! p).toNat % 128 * 128 ^ k, k + 1, 0) := by
  rw [drop_cons h, show 10 - k = (9 - k) + 1 by omega]
  rfl
theorem vd_end {s : ByteArray} {p k a : Nat} (hk : k ≤ 9) (h : s.size ≤ p) : vD (10 - k) k (s.data.toList.drop p) a = (0, 0, 1) := by
  rw [List.drop_of_length_le (by simpa using h), show 10 - k = (9 - k) + 1 by omega]
  rfl
theorem vd_big {s : ByteArray} {p k a : Nat} (hk : k = 9) (h : p < s.size) (hc : 1 < (s.get! p).toNat) : vD (10 - k) k (s.data.toList.drop p) a = (0, 0, 2) := by
  rw [vd_at (by omega) h, if_pos ⟨by omega, hc⟩]
theorem vd_go {s : ByteArray} {p k a : Nat} (hk : k ≤ 8) (h : p < s.size) (hc : 128 ≤ (s.get! p).toNat) : vD (10 - k) k (s.data.toList.drop p) a = vD (10 - (k + 1)) (k + 1) (s.data.toList.drop (p + 1)) (a + (s.get! p).toNat % 128 * 128 ^ k) := by
  rw [vd_at (by omega) h, if_neg (by omega), if_pos hc, show 9 - k = 10 - (k + 1) by omega]
theorem vd_zero {s : ByteArray} {p k a : Nat} (hk : k ≤ 9) (h0 : 0 < k) (h : p < s.size) (hc : (s.get! p).toNat = 0) : vD (10 - k) k (s.data.toList.drop p) a = (0, 0, 2) := by
  rw [vd_at (by omega) h, if_neg (by omega), if_neg (by omega), if_pos ⟨hc, h0⟩]
theorem vd_ok {s : ByteArray} {p k a : Nat} (hk : k ≤ 9) (h : p < s.size) (h9 : k = 9 → (s.get! p).toNat ≤ 1) (hc : (s.get! p).toNat < 128) (h0 : k = 0 ∨ (s.get! p).toNat ≠ 0) : vD (10 - k) k (s.data.toList.drop p) a = (a + (s.get! p).toNat % 128 * 128 ^ k, k + 1, 0) := by
  rw [vd_at (by omega) h, if_neg (by omega), if_neg (by omega), if_neg (by omega)]
theorem sumnum {n k : Nat} {c : UInt8} (ha : n < 128 ^ k) (hk : k ≤ 8 ∨ (k = 9 ∧ c.toNat ≤ 1)) :
    IntKind.u64.wrap ((n : Int) + IntKind.u64.wrap (IntKind.u64.wrap (((c.toNat : Nat) : Int).tmod 128) * IntKind.u64.wrap ((128 ^ k : Nat) : Int))) = ((n + c.toNat % 128 * 128 ^ k : Nat) : Int) := by
  have hlim : c.toNat % 128 * 128 ^ k ≤ 127 * 128 ^ 8 ∧ 128 ^ k ≤ 128 ^ 8 ∨ c.toNat % 128 * 128 ^ k ≤ 1 * 128 ^ 9 ∧ 128 ^ k ≤ 128 ^ 9 := by
    rcases hk with hk | ⟨rfl, hc⟩
    · have h2 : 128 ^ k ≤ 128 ^ 8 := Nat.pow_le_pow_right (by decide) hk
      exact .inl ⟨Nat.mul_le_mul (by omega) h2, h2⟩
    · exact .inr ⟨Nat.mul_le_mul_right _ (by omega), Nat.le_refl _⟩
  have e1 : ((c.toNat : Nat) : Int).tmod 128 = ((c.toNat % 128 : Nat) : Int) := by rw [Int.tmod_eq_emod_of_nonneg (by omega)]; omega
  have e2 : IntKind.u64.wrap ((128 ^ k : Nat) : Int) = ((128 ^ k : Nat) : Int) := by
    rw [IntKind.wrap_u64]
    generalize 128 ^ k = q at *
    omega
  have e3 : IntKind.u64.wrap ((c.toNat % 128 : Nat) : Int) = ((c.toNat % 128 : Nat) : Int) := by
    rw [IntKind.wrap_u64]
    omega
  rw [e1, e3, e2, ← Int.natCast_mul, IntKind.wrap_u64, IntKind.wrap_u64]
  generalize c.toNat % 128 * 128 ^ k = q at *
  omega
theorem scalenum {k : Nat} (hk : k ≤ 9) : IntKind.u64.wrap (IntKind.u64.wrap ((128 ^ k : Nat) : Int) * 128) = IntKind.u64.wrap ((128 ^ (k + 1) : Nat) : Int) := by
  rw [IntKind.wrap_u64, IntKind.wrap_u64, IntKind.wrap_u64, Nat.pow_succ]
  generalize 128 ^ k = q at *
  omega
theorem shr7 (m : Nat) : ((m : Nat) : Int).fdiv (2 ^ min (Int.toNat 7) IntKind.u64.bits) = ((m / 128 : Nat) : Int) := by
  rw [show (2 : Int) ^ min (Int.toNat 7) IntKind.u64.bits = 128 from rfl, Int.fdiv_eq_ediv_of_nonneg _ (by omega)]
  omega
theorem wrap8 (m : Nat) : IntKind.u8.wrap (m : Int) = (m : Int) % 256 := by simp [IntKind.wrap, IntKind.signed, IntKind.bits]
theorem at_nat (a k : Nat) : ((a : Int) + (k : Int)).toNat = a + k := by omega
theorem ornum {a k : Nat} {c : UInt8} (ha : a < 128 ^ k) (hk : k ≤ 8 ∨ (k = 9 ∧ c.toNat ≤ 1)) :
    IntKind.u64.wrap (BitVec.ofInt IntKind.u64.bits (a : Int) ||| BitVec.ofInt IntKind.u64.bits (IntKind.u64.wrap (IntKind.u64.wrap (IntKind.u8.wrap (BitVec.ofInt IntKind.u8.bits (c.toNat : Int) &&& BitVec.ofInt IntKind.u8.bits 127).toNat) * 2 ^ min (7 * (k : Int)).toNat IntKind.u64.bits))).toNat = ((a + c.toNat % 128 * 128 ^ k : Nat) : Int) := by
  rw [show min (7 * (k : Int)).toNat IntKind.u64.bits = 7 * k by show min _ 64 = _; omega]
  exact orstep a k c ha hk
theorem size_len (s : ByteArray) : s.data.toList.length = s.size := by simp
end P4
open P4
set_option maxRecDepth 10000 in
theorem cvarint (s : ByteArray) (hs : s.size ≤ 140737488355328) :
    Ctr Try.prog 90 [.c (.s s)] [] fun v h => v = tri (vdec s.data.toList) ∧ h = [] := by
  refine Ctr.mk' tbv mixed Try.func90 rfl rfl rfl (fun _ _ => by kernel_rfl) (by kernel_rfl) (by rfl) (by rfl) (by (repeat' first | refine And.intro ?_ ?_ | exact xeC | fail)) ?_
  repeat' (first | (fail_if_success (with_reducible refine xstp ?_)); first | ((with_reducible refine And.intro (fun (hb : _ = true) => ?_) (fun (hb : _ = false) => ?_)) <;> replace hb := xnC hb <;> (try first | exact xfC | exact bff hb (by assumption) | exact bff (by assumption) hb)) | (with_reducible refine Both.mk ?_ ?_) | ((with_reducible refine And.intro ?_ ?_); focus exact xoC) | ((with_reducible refine Or.inl ⟨?_, ?_, ?_⟩); (focus rfl); focus exact xaC) | ((with_reducible refine xwB ?_ ?_); focus exact xaC) | ((with_reducible refine xwC ?_ ?_); focus exact xaC) | ((with_reducible refine xwD ?_ ?_); focus exact xaC) | ((with_reducible refine xwE ?_ ?_); focus exact xaC) | (with_reducible intro hc; (try simp only [capsP, and_true] at hc); (try exact xfC)) | ((fail_if_success (with_reducible first | refine xgon ?_ | intro _)); (conv => whnf); (fail_if_success (fail_if_success (with_reducible first | refine xstp ?_ | refine Both.mk ?_ ?_ | refine xgon ?_ | intro _)))))
  refine LoopK.mk' {p : Nat × Nat // p.1 ≤ 10 ∧ p.1 ≤ s.size ∧ p.2 < 128 ^ p.1 ∧ vD (10 - p.1) p.1 (s.data.toList.drop p.1) p.2 = vdec s.data.toList}
    (fun ⟨(k, a), _⟩ => ⟨[(0, .c (.s s)), (5, .c (.i .u64 (a : Nat))), (8, .c (.i .i64 (k : Nat)))], []⟩) (fun k => 10 - k.1.1)
    ⟨⟨(0, 0), by omega, by omega, by decide, rfl⟩, [], ?_⟩ ?_
  · (repeat' first | refine And.intro ?_ ?_ | exact xeC | fail)
  rintro ⟨⟨k, a⟩, hk, hks, ha, hv⟩
  simp only at hk hks ha hv
  repeat' (first | (fail_if_success (with_reducible refine xstp ?_)); first | ((with_reducible refine And.intro (fun (hb : _ = true) => ?_) (fun (hb : _ = false) => ?_)) <;> replace hb := xnC hb <;> (try first | exact xfC | exact bff hb (by assumption) | exact bff (by assumption) hb)) | (with_reducible refine Both.mk ?_ ?_) | ((with_reducible refine And.intro ?_ ?_); focus exact xoC) | ((with_reducible refine Or.inl ⟨?_, ?_, ?_⟩); (focus rfl); focus exact xaC) | ((with_reducible refine xwB ?_ ?_); focus exact xaC) | ((with_reducible refine xwC ?_ ?_); focus exact xaC) | ((with_reducible refine xwD ?_ ?_); focus exact xaC) | ((with_reducible refine xwE ?_ ?_); focus exact xaC) | (with_reducible intro hc; (try simp only [capsP, and_true] at hc); (try exact xfC)) | ((fail_if_success (with_reducible first | refine xgon ?_ | intro _)); (conv => whnf); (fail_if_success (fail_if_success (with_reducible first | refine xstp ?_ | refine Both.mk ?_ ?_ | refine xgon ?_ | intro _)))))
  · rw [vd_end (by omega) (by omega)] at hv; rw [← hv]; refine FinK.mk ⟨[], _, _, ⟨rfl, rfl⟩, ?_⟩; (repeat' first | refine And.intro ?_ ?_ | exact xeC | fail)
  · rw [vd_big (by omega) (by omega) (by omega)] at hv; rw [← hv]; refine FinK.mk ⟨[], _, _, ⟨rfl, rfl⟩, ?_⟩; (repeat' first | refine And.intro ?_ ?_ | exact xeC | fail)
  · rw [vd_zero (by omega) (by omega) (by omega) (by omega)] at hv; rw [← hv]; refine FinK.mk ⟨[], _, _, ⟨rfl, rfl⟩, ?_⟩; (repeat' first | refine And.intro ?_ ?_ | exact xeC | fail)
  · rw [vd_ok (by omega) (by omega) (by omega) (by omega) (by omega)] at hv; rw [← hv]; refine FinK.mk ⟨[], _, _, ⟨rfl, rfl⟩, ?_⟩; (repeat' first | refine And.intro ?_ ?_ | exact xeC | fail)
    exact ornum (c := s.get! k) ha (by omega)
  · rw [vd_go (by omega) (by omega) (by omega)] at hv
    refine ⟨⟨(k + 1, a + (s.get! k).toNat % 128 * 128 ^ k), by omega, by omega, ?_, hv⟩, [], by simp only; omega, ?_⟩
    · have : (s.get! k).toNat % 128 * 128 ^ k ≤ 127 * 128 ^ k := Nat.mul_le_mul_right _ (by omega)
      simp only [Nat.pow_succ]
      omega
    · (repeat' first | refine And.intro ?_ ?_ | exact xeC | fail)
      exact ornum (c := s.get! k) ha (by omega)
  · rw [vd_zero (by omega) (by omega) (by omega) (by omega)] at hv; rw [← hv]; refine FinK.mk ⟨[], _, _, ⟨rfl, rfl⟩, ?_⟩; (repeat' first | refine And.intro ?_ ?_ | exact xeC | fail)
  · rw [vd_ok (by omega) (by omega) (by omega) (by omega) (by omega)] at hv; rw [← hv]; refine FinK.mk ⟨[], _, _, ⟨rfl, rfl⟩, ?_⟩; (repeat' first | refine And.intro ?_ ?_ | exact xeC | fail)
    exact ornum (c := s.get! k) ha (by omega)
  · rw [vd_ok (by omega) (by omega) (by omega) (by omega) (by omega)] at hv; rw [← hv]; refine FinK.mk ⟨[], _, _, ⟨rfl, rfl⟩, ?_⟩; (repeat' first | refine And.intro ?_ ?_ | exact xeC | fail)
    exact ornum (c := s.get! k) ha (by omega)
  · obtain rfl : k = 10 := by omega
    rw [show (vdec s.data.toList) = (0, 0, 2) from hv.symm]; refine FinK.mk ⟨[], _, _, ⟨rfl, rfl⟩, ?_⟩; (repeat' first | refine And.intro ?_ ?_ | exact xeC | fail)
set_option maxRecDepth 10000 in
theorem cvarintR (s : ByteArray) (a : Nat) (hs : s.size ≤ 140737488355328) (ha : a ≤ s.size) :
    Ctr Try.prog 111 [.c (.s s), .c (.i .i64 a)] [] fun v h => v = triR a (vdec (s.data.toList.drop a)) ∧ h = [] := by
  refine Ctr.mk' tbv mixed Try.func111 rfl rfl rfl (fun _ _ => by kernel_rfl) (by kernel_rfl) (by rfl) (by rfl) (by (repeat' first | refine And.intro ?_ ?_ | exact xeC | fail)) ?_
  repeat' (first | (fail_if_success (with_reducible refine xstp ?_)); first | ((with_reducible refine And.intro (fun (hb : _ = true) => ?_) (fun (hb : _ = false) => ?_)) <;> replace hb := xnC hb <;> (try first | exact xfC | exact bff hb (by assumption) | exact bff (by assumption) hb)) | (with_reducible refine Both.mk ?_ ?_) | ((with_reducible refine And.intro ?_ ?_); focus exact xoC) | ((with_reducible refine Or.inl ⟨?_, ?_, ?_⟩); (focus rfl); focus exact xaC) | ((with_reducible refine xwB ?_ ?_); focus exact xaC) | ((with_reducible refine xwC ?_ ?_); focus exact xaC) | ((with_reducible refine xwD ?_ ?_); focus exact xaC) | ((with_reducible refine xwE ?_ ?_); focus exact xaC) | (with_reducible intro hc; (try simp only [capsP, and_true] at hc); (try exact xfC)) | ((fail_if_success (with_reducible first | refine xgon ?_ | intro _)); (conv => whnf); (fail_if_success (fail_if_success (with_reducible first | refine xstp ?_ | refine Both.mk ?_ ?_ | refine xgon ?_ | intro _)))))
  refine LoopK.mk' {p : Nat × Nat // p.1 ≤ 10 ∧ a + p.1 ≤ s.size ∧ p.2 < 128 ^ p.1 ∧ vD (10 - p.1) p.1 (s.data.toList.drop (a + p.1)) p.2 = vdec (s.data.toList.drop a)}
    (fun ⟨(k, n), _⟩ => ⟨[(0, .c (.s s)), (1, .c (.i .i64 a)), (7, .c (.i .u64 (n : Nat))), (8, .c (.i .u64 (IntKind.u64.wrap ((128 ^ k : Nat) : Int)))), (9, .c (.i .i64 (k : Nat)))], []⟩) (fun k => 10 - k.1.1)
    ⟨⟨(0, 0), by omega, by omega, by decide, rfl⟩, [], ?_⟩ ?_
  · (repeat' first | refine And.intro ?_ ?_ | exact xeC | fail)
  rintro ⟨⟨k, n⟩, hk, hks, ha, hv⟩
  simp only at hk hks ha hv
  repeat' (first | (fail_if_success (with_reducible refine xstp ?_)); first | ((with_reducible refine And.intro (fun (hb : _ = true) => ?_) (fun (hb : _ = false) => ?_)) <;> replace hb := xnC hb <;> (try first | exact xfC | exact bff hb (by assumption) | exact bff (by assumption) hb)) | (with_reducible refine Both.mk ?_ ?_) | ((with_reducible refine And.intro ?_ ?_); focus exact xoC) | ((with_reducible refine Or.inl ⟨?_, ?_, ?_⟩); (focus rfl); focus exact xaC) | ((with_reducible refine xwB ?_ ?_); focus exact xaC) | ((with_reducible refine xwC ?_ ?_); focus exact xaC) | ((with_reducible refine xwD ?_ ?_); focus exact xaC) | ((with_reducible refine xwE ?_ ?_); focus exact xaC) | (with_reducible intro hc; (try simp only [capsP, and_true] at hc); (try exact xfC)) | ((fail_if_success (with_reducible first | refine xgon ?_ | intro _)); (conv => whnf); (fail_if_success (fail_if_success (with_reducible first | refine xstp ?_ | refine Both.mk ?_ ?_ | refine xgon ?_ | intro _)))))
  all_goals try simp only [at_nat] at *
  · rw [vd_end (by omega) (by omega)] at hv; rw [← hv]; refine FinK.mk ⟨[], _, _, ⟨rfl, rfl⟩, ?_⟩; (repeat' first | refine And.intro ?_ ?_ | exact xeC | fail)
  · rw [vd_big (by omega) (by omega) (by omega)] at hv; rw [← hv]; refine FinK.mk ⟨[], _, _, ⟨rfl, rfl⟩, ?_⟩; (repeat' first | refine And.intro ?_ ?_ | exact xeC | fail)
  · rw [vd_zero (by omega) (by omega) (by omega) (by omega)] at hv; rw [← hv]; refine FinK.mk ⟨[], _, _, ⟨rfl, rfl⟩, ?_⟩; (repeat' first | refine And.intro ?_ ?_ | exact xeC | fail)
  · rw [vd_ok (by omega) (by omega) (by omega) (by omega) (by omega)] at hv; rw [← hv]; refine FinK.mk ⟨[], _, _, ⟨rfl, rfl⟩, ?_⟩; (repeat' first | refine And.intro ?_ ?_ | exact xeC | fail)
    exact sumnum ha (by omega)
  · rw [vd_zero (by omega) (by omega) (by omega) (by omega)] at hv; rw [← hv]; refine FinK.mk ⟨[], _, _, ⟨rfl, rfl⟩, ?_⟩; (repeat' first | refine And.intro ?_ ?_ | exact xeC | fail)
  · rw [vd_ok (by omega) (by omega) (by omega) (by omega) (by omega)] at hv; rw [← hv]; refine FinK.mk ⟨[], _, _, ⟨rfl, rfl⟩, ?_⟩; (repeat' first | refine And.intro ?_ ?_ | exact xeC | fail)
    exact sumnum ha (by omega)
  · rw [vd_ok (by omega) (by omega) (by omega) (by omega) (by omega)] at hv; rw [← hv]; refine FinK.mk ⟨[], _, _, ⟨rfl, rfl⟩, ?_⟩; (repeat' first | refine And.intro ?_ ?_ | exact xeC | fail)
    exact sumnum ha (by omega)
  · rw [vd_go (by omega) (by omega) (by omega)] at hv
    refine ⟨⟨(k + 1, n + (s.get! (a + k)).toNat % 128 * 128 ^ k), by omega, by omega, ?_, hv⟩, [], by simp only; omega, ?_⟩
    · have : (s.get! (a + k)).toNat % 128 * 128 ^ k ≤ 127 * 128 ^ k := Nat.mul_le_mul_right _ (by omega)
      simp only [Nat.pow_succ]
      omega
    · (repeat' first | refine And.intro ?_ ?_ | exact xeC | fail)
      · exact sumnum ha (by omega)
      · exact scalenum (by omega)
  · obtain rfl : k = 10 := by omega
    rw [show (vdec (s.data.toList.drop a)) = (0, 0, 2) from hv.symm]; refine FinK.mk ⟨[], _, _, ⟨rfl, rfl⟩, ?_⟩; (repeat' first | refine And.intro ?_ ?_ | exact xeC | fail)
end Go.Proofs.Ytkjkbpnhocjenaa
namespace Go.Proofs.Ytkjkbpnhocjenaa
open Go.X
set_option linter.unusedSimpArgs false
set_option linter.unusedVariables false
theorem P4.vE0 (n : Nat) : [] ++ P4.vE (9 - 0) n = P4.venc n := rfl
theorem P4.u9 {n : Nat} (hn : n < 18446744073709551616) : n < 2 * 128 ^ (9 - 0) := by show n < 2 * 128 ^ 9; omega
open P4
set_option maxRecDepth 10000 in
theorem cUint (n : Nat) (hn : n < 18446744073709551616) :
    Ctr Try.prog 68 [.c (.i .u64 n)] [] fun v h => v = .c (.s (mkS (venc n))) ∧ h = [] := by
  refine Ctr.mk' tbv mixed Try.func68 rfl rfl rfl (fun _ _ => by kernel_rfl) (by kernel_rfl) (by rfl) (by rfl) (by (repeat' first | refine And.intro ?_ ?_ | exact xeC | fail)) ?_
  repeat' (first | (fail_if_success (with_reducible refine xstp ?_)); first | ((with_reducible refine And.intro (fun (hb : _ = true) => ?_) (fun (hb : _ = false) => ?_)) <;> replace hb := xnC hb <;> (try first | exact xfC | exact bff hb (by assumption) | exact bff (by assumption) hb)) | (with_reducible refine Both.mk ?_ ?_) | ((with_reducible refine And.intro ?_ ?_); focus exact xoC) | ((with_reducible refine Or.inl ⟨?_, ?_, ?_⟩); (focus rfl); focus exact xaC) | ((with_reducible refine xwB ?_ ?_); focus exact xaC) | ((with_reducible refine xwC ?_ ?_); focus exact xaC) | ((with_reducible refine xwD ?_ ?_); focus exact xaC) | ((with_reducible refine xwE ?_ ?_); focus exact xaC) | (with_reducible intro hc; (try simp only [capsP, and_true] at hc); (try exact xfC)) | ((fail_if_success (with_reducible first | refine xgon ?_ | intro _)); (conv => whnf); (fail_if_success (fail_if_success (with_reducible first | refine xstp ?_ | refine Both.mk ?_ ?_ | refine xgon ?_ | intro _)))))
  refine LoopK.mk' {p : Nat × Nat × List UInt8 // p.1 ≤ 9 ∧ p.2.1 < 18446744073709551616 ∧ p.2.1 < 2 * 128 ^ (9 - p.1) ∧ p.2.2.length = 10 ∧ p.2.2.take p.1 ++ vE (9 - p.1) p.2.1 = venc n}
    (fun ⟨(k, m, l), _⟩ => ⟨[(0, .c (.i .u64 (m : Nat))), (3, .c (.pe 0 0 1 0 0)), (4, .c (.i .i64 (k : Nat)))], [.one (.row true false 150 1 10 10 (rowOf encB8 l))]⟩) (fun k => 10 - k.1.1)
    ⟨⟨(0, n, List.replicate 10 0), by omega, hn, P4.u9 hn, rfl, P4.vE0 n⟩, [0], ?_⟩ ?_
  · (repeat' first | refine And.intro ?_ ?_ | exact xeC | fail)
    intro i hi
    rcases (by omega : i = 0 ∨ i = 1 ∨ i = 2 ∨ i = 3 ∨ i = 4 ∨ i = 5 ∨ i = 6 ∨ i = 7 ∨ i = 8 ∨ i = 9) with rfl | rfl | rfl | rfl | rfl | rfl | rfl | rfl | rfl | rfl <;> rfl
  rintro ⟨⟨k, m, l⟩, hk, hm64, hm, hC, hE⟩
  simp only at hk hm64 hm hC hE
  repeat' (first | (fail_if_success (with_reducible refine xstp ?_)); first | ((with_reducible refine And.intro (fun (hb : _ = true) => ?_) (fun (hb : _ = false) => ?_)) <;> replace hb := xnC hb <;> (try first | exact xfC | exact bff hb (by assumption) | exact bff (by assumption) hb)) | (with_reducible refine Both.mk ?_ ?_) | ((with_reducible refine And.intro ?_ ?_); focus exact xoC) | ((with_reducible refine Or.inl ⟨?_, ?_, ?_⟩); (focus rfl); focus exact xaC) | ((with_reducible refine xwB ?_ ?_); focus exact xaC) | ((with_reducible refine xwC ?_ ?_); focus exact xaC) | ((with_reducible refine xwD ?_ ?_); focus exact xaC) | ((with_reducible refine xwE ?_ ?_); focus exact xaC) | (with_reducible intro hc; (try simp only [capsP, and_true] at hc); (try exact xfC)) | ((fail_if_success (with_reducible first | refine xgon ?_ | intro _)); (conv => whnf); (fail_if_success (fail_if_success (with_reducible first | refine xstp ?_ | refine Both.mk ?_ ?_ | refine xgon ?_ | intro _)))))
  · have hk8 : k ≤ 8 := by
      rcases Nat.lt_or_ge k 9 with h | h
      · omega
      · obtain rfl : k = 9 := by omega
        simp at hm; omega
    refine ⟨⟨(k + 1, m / 128, l.set k (UInt8.ofNat (128 + m % 128))), by omega, by show m / 128 < _; omega, ?_, by simpa using hC, ?_⟩, [0], by simp only; omega, ?_⟩
    · rw [show 9 - k = (9 - (k + 1)) + 1 by omega, Nat.pow_succ] at hm
      show m / 128 < 2 * 128 ^ (9 - (k + 1))
      omega
    · simp only
      rw [take_set_snocG _ _ _ (by omega), ← hE, show 9 - k = (9 - (k + 1)) + 1 by omega, List.append_assoc]
      congr 1
      conv => rhs; unfold vE
      rw [if_neg (by omega)]
      rfl
    · (repeat' first | refine And.intro ?_ ?_ | exact xeC | fail)
      · intro i hi
        simp only [Int.toNat_natCast, Nat.zero_add, rowOf]
        rw [getD_set _ _ _ _ (by omega)]
        by_cases h : i = k
        · rw [if_pos h, if_pos h, encB8, ← or128 m]
          rw [wrap8 m]
          rfl
        · rw [if_neg h, if_neg h]
      · exact shr7 m
  · have e8 : IntKind.u8.wrap (m : Int) = ((UInt8.ofNat m).toNat : Nat) := by
      rw [ofNat_lt (by omega), wrap8]
      omega
    have er : ∀ i, i < 10 → (if i = k then [C.i .u8 (IntKind.u8.wrap (m : Int))] else rowOf encB8 l i) = encB8 ((l.set k (UInt8.ofNat m)).getD i default) := by
      intro i hi
      rw [getD_set _ _ _ _ (by omega), e8]
      by_cases h : i = k
      · rw [if_pos h, if_pos h]; rfl
      · rw [if_neg h, if_neg h]; rfl
    have et : ((k : Int) + 1).toNat = k + 1 := by omega
    simp only [Int.toNat_natCast, Nat.zero_add, et]
    refine ⟨⟨trivial, trivial, by omega, fun i hi => ?_⟩, ?_⟩
    · rw [er i (by omega)]; rfl
    · rw [bytesOf_row (l.set k (UInt8.ofNat m)) _ 0 (k + 1) (fun i hi => by rw [Nat.zero_add, ← er i (by omega)]) (by rw [List.length_set]; omega)]
      rw [List.drop_zero, take_set_snocG _ _ _ (by omega), show l.take k ++ [UInt8.ofNat m] = venc n by
        rw [← hE]
        congr 1
        cases h : 9 - k with
        | zero => rfl
        | succ r => unfold vE; rw [if_pos (by omega)]]
      repeat' (first | (fail_if_success (with_reducible refine xstp ?_)); first | ((with_reducible refine And.intro (fun (hb : _ = true) => ?_) (fun (hb : _ = false) => ?_)) <;> replace hb := xnC hb <;> (try first | exact xfC | exact bff hb (by assumption) | exact bff (by assumption) hb)) | (with_reducible refine Both.mk ?_ ?_) | ((with_reducible refine And.intro ?_ ?_); focus exact xoC) | ((with_reducible refine Or.inl ⟨?_, ?_, ?_⟩); (focus rfl); focus exact xaC) | ((with_reducible refine xwB ?_ ?_); focus exact xaC) | ((with_reducible refine xwC ?_ ?_); focus exact xaC) | ((with_reducible refine xwD ?_ ?_); focus exact xaC) | ((with_reducible refine xwE ?_ ?_); focus exact xaC) | (with_reducible intro hc; (try simp only [capsP, and_true] at hc); (try exact xfC)) | ((fail_if_success (with_reducible first | refine xgon ?_ | intro _)); (conv => whnf); (fail_if_success (fail_if_success (with_reducible first | refine xstp ?_ | refine Both.mk ?_ ?_ | refine xgon ?_ | intro _)))))
      refine FinK.mk ⟨[], _, _, ⟨rfl, rfl⟩, ?_⟩; (repeat' first | refine And.intro ?_ ?_ | exact xeC | fail)
end Go.Proofs.Ytkjkbpnhocjenaa
namespace Go.Proofs.Ytkjkbpnhocjenaa
open Go.X
set_option linter.unusedSimpArgs false
set_option linter.unusedVariables false
open P4
namespace P4
def textL (l : List UInt8) : List UInt8 := venc l.length ++ l
theorem venc_le (n : Nat) : (venc n).length ≤ 10 := vE_le 9 n
end P4
set_option maxRecDepth 10000 in
theorem cText (l : List UInt8) (hl : l.length ≤ 140737488355328) :
    Ctr Try.prog 67 [.c (.s (mkS l))] [] fun v h => v = .c (.s (mkS (textL l))) ∧ h = [] := by
  refine Ctr.mk' tbv mixed Try.func67 rfl rfl rfl (fun _ _ => by kernel_rfl) (by kernel_rfl) (by rfl) (by rfl) (by (repeat' first | refine And.intro ?_ ?_ | exact xeC | fail)) ?_
  repeat' (first | (fail_if_success (with_reducible refine xstp ?_)); first | ((with_reducible refine And.intro (fun (hb : _ = true) => ?_) (fun (hb : _ = false) => ?_)) <;> replace hb := xnC hb <;> (try first | exact xfC | exact bff hb (by assumption) | exact bff (by assumption) hb)) | (with_reducible refine Both.mk ?_ ?_) | ((with_reducible refine And.intro ?_ ?_); focus exact xoC) | ((with_reducible refine Or.inl ⟨?_, ?_, ?_⟩); (focus rfl); focus exact xaC) | ((with_reducible refine xwB ?_ ?_); focus exact xaC) | ((with_reducible refine xwC ?_ ?_); focus exact xaC) | ((with_reducible refine xwD ?_ ?_); focus exact xaC) | ((with_reducible refine xwE ?_ ?_); focus exact xaC) | (with_reducible intro hc; (try simp only [capsP, and_true] at hc); (try exact xfC)) | ((fail_if_success (with_reducible first | refine xgon ?_ | intro _)); (conv => whnf); (fail_if_success (fail_if_success (with_reducible first | refine xstp ?_ | refine Both.mk ?_ ?_ | refine xgon ?_ | intro _)))))
  rw [show IntKind.u64.wrap ((mkS l).size : Nat) = (l.length : Nat) by rw [IntKind.wrap_u64, mkS_size]; omega]
  refine xcal (σ := []) (nl := []) (cUint l.length (by omega)) ?_
  rintro v h' ⟨rfl, rfl⟩ hcaps
  have h1 : (mkS (venc l.length)).size ≤ 10 := venc_le _
  have h2 : (mkS l).size ≤ 140737488355328 := hl
  refine xret ?_
  repeat' (first | (fail_if_success (with_reducible refine xstp ?_)); first | ((with_reducible refine And.intro (fun (hb : _ = true) => ?_) (fun (hb : _ = false) => ?_)) <;> replace hb := xnC hb <;> (try first | exact xfC | exact bff hb (by assumption) | exact bff (by assumption) hb)) | (with_reducible refine Both.mk ?_ ?_) | ((with_reducible refine And.intro ?_ ?_); focus exact xoC) | ((with_reducible refine Or.inl ⟨?_, ?_, ?_⟩); (focus rfl); focus exact xaC) | ((with_reducible refine xwB ?_ ?_); focus exact xaC) | ((with_reducible refine xwC ?_ ?_); focus exact xaC) | ((with_reducible refine xwD ?_ ?_); focus exact xaC) | ((with_reducible refine xwE ?_ ?_); focus exact xaC) | (with_reducible intro hc; (try simp only [capsP, and_true] at hc); (try exact xfC)) | ((fail_if_success (with_reducible first | refine xgon ?_ | intro _)); (conv => whnf); (fail_if_success (fail_if_success (with_reducible first | refine xstp ?_ | refine Both.mk ?_ ?_ | refine xgon ?_ | intro _)))))
  rw [mkS_append]
  refine FinK.mk ⟨[], _, _, ⟨rfl, rfl⟩, ?_⟩; (repeat' first | refine And.intro ?_ ?_ | exact xeC | fail)
end Go.Proofs.Ytkjkbpnhocjenaa
namespace Go.Proofs.Ytkjkbpnhocjenaa
open Go.X
set_option linter.unusedSimpArgs false
set_option linter.unusedVariables false
open P4
end Go.Proofs.Ytkjkbpnhocjenaa
namespace Go.Proofs.Ytkjkbpnhocjenaa
open Go.X
set_option linter.unusedSimpArgs false
set_option linter.unusedVariables false
namespace P4
abbrev rdC (s : ByteArray) (a e : Nat) : Ck := .cells true [.s s, .i .i64 (a : Nat), .i .i64 (e : Nat)]
def endV (s : ByteArray) (a e : Nat) : Nat := if e = 0 then (if a < s.size then 3 else 0) else e
def rdU (s : ByteArray) (a e : Nat) : Nat × Nat × Nat :=
  if e = 0 then ((vdec (s.data.toList.drop a)).1, a + (vdec (s.data.toList.drop a)).2.1, (vdec (s.data.toList.drop a)).2.2) else (0, a, e)
theorem ext_list (s : ByteArray) (a : Nat) : (s.extract a s.size).data.toList = s.data.toList.drop a := by
  rw [ByteArray.data_extract]
  simp [List.extract]
  exact List.take_of_length_le (by simp)
theorem ext_size {s : ByteArray} {a : Nat} (h : a ≤ s.size) : (s.extract a s.size).size = s.size - a := by
  simp [ByteArray.size_extract]
theorem vdec_le (l : List UInt8) : (vdec l).2.1 ≤ l.length := by
  rcases vdec_err l with h | h | h
  · exact (vdec_ok (l := l) (n := (vdec l).1) (k := (vdec l).2.1) (by rw [← h])).2.2.1
  · simp [h]
  · simp [h]
theorem rdU_le {s : ByteArray} {a e : Nat} (h : a ≤ s.size) : (rdU s a e).2.1 ≤ s.size ∧ a ≤ (rdU s a e).2.1 := by
  unfold rdU
  split
  · have := vdec_le (s.data.toList.drop a)
    simp at this ⊢
    omega
  · exact ⟨h, Nat.le_refl _⟩
theorem rdU_err (s : ByteArray) (a e : Nat) (h : (rdU s a e).2.2 ≠ 0) : (rdU s a e).1 = 0 ∧ (rdU s a e).2.1 = a := by
  unfold rdU at h ⊢
  split at h
  · rename_i h0
    rw [if_pos h0]
    rcases vdec_err (s.data.toList.drop a) with h1 | h1 | h1
    · exact absurd h1 h
    · simp [h1]
    · simp [h1]
  · rename_i h0
    rw [if_neg h0]
    exact ⟨rfl, rfl⟩
theorem rdU_lt (s : ByteArray) (a e : Nat) : (rdU s a e).1 < 18446744073709551616 := by
  unfold rdU
  split
  · rcases vdec_err (s.data.toList.drop a) with h | h | h
    · exact (vdec_ok (n := (vdec (s.data.toList.drop a)).1) (k := (vdec (s.data.toList.drop a)).2.1) (by rw [← h])).1
    · simp [h]
    · simp [h]
  · exact (by omega : 0 < 18446744073709551616)
end P4
open P4
set_option maxRecDepth 10000 in
theorem cNew (s : ByteArray) :
    Ctr Try.prog 58 [.c (.s s)] [] fun v h => v = .c (.p 0 0 0) ∧ h = [.one (rdC s 0 0)] := by
  refine Ctr.mk' tbv mixed Try.func58 rfl rfl rfl (fun _ _ => by kernel_rfl) (by kernel_rfl) (by rfl) (by rfl) (by (repeat' first | refine And.intro ?_ ?_ | exact xeC | fail)) ?_
  repeat' (first | (fail_if_success (with_reducible refine xstp ?_)); first | ((with_reducible refine And.intro (fun (hb : _ = true) => ?_) (fun (hb : _ = false) => ?_)) <;> replace hb := xnC hb <;> (try first | exact xfC | exact bff hb (by assumption) | exact bff (by assumption) hb)) | (with_reducible refine Both.mk ?_ ?_) | ((with_reducible refine And.intro ?_ ?_); focus exact xoC) | ((with_reducible refine Or.inl ⟨?_, ?_, ?_⟩); (focus rfl); focus exact xaC) | ((with_reducible refine xwB ?_ ?_); focus exact xaC) | ((with_reducible refine xwC ?_ ?_); focus exact xaC) | ((with_reducible refine xwD ?_ ?_); focus exact xaC) | ((with_reducible refine xwE ?_ ?_); focus exact xaC) | (with_reducible intro hc; (try simp only [capsP, and_true] at hc); (try exact xfC)) | ((fail_if_success (with_reducible first | refine xgon ?_ | intro _)); (conv => whnf); (fail_if_success (fail_if_success (with_reducible first | refine xstp ?_ | refine Both.mk ?_ ?_ | refine xgon ?_ | intro _)))))
  refine FinK.mk ⟨[0], _, _, ⟨rfl, rfl⟩, ?_⟩; (repeat' first | refine And.intro ?_ ?_ | exact xeC | fail)
set_option maxRecDepth 10000 in
theorem cErr (s : ByteArray) (a e : Nat) :
    Ctr Try.prog 61 [.c (.p 0 0 0)] [.one (rdC s a e)] fun v h => v = .c (.i .i64 (e : Nat)) ∧ h = [.one (rdC s a e)] := by
  refine Ctr.mk' tbv mixed Try.func61 rfl rfl rfl (fun _ _ => by kernel_rfl) (by kernel_rfl) (by rfl) (by rfl) (by (repeat' first | refine And.intro ?_ ?_ | exact xeC | fail)) ?_
  repeat' (first | (fail_if_success (with_reducible refine xstp ?_)); first | ((with_reducible refine And.intro (fun (hb : _ = true) => ?_) (fun (hb : _ = false) => ?_)) <;> replace hb := xnC hb <;> (try first | exact xfC | exact bff hb (by assumption) | exact bff (by assumption) hb)) | (with_reducible refine Both.mk ?_ ?_) | ((with_reducible refine And.intro ?_ ?_); focus exact xoC) | ((with_reducible refine Or.inl ⟨?_, ?_, ?_⟩); (focus rfl); focus exact xaC) | ((with_reducible refine xwB ?_ ?_); focus exact xaC) | ((with_reducible refine xwC ?_ ?_); focus exact xaC) | ((with_reducible refine xwD ?_ ?_); focus exact xaC) | ((with_reducible refine xwE ?_ ?_); focus exact xaC) | (with_reducible intro hc; (try simp only [capsP, and_true] at hc); (try exact xfC)) | ((fail_if_success (with_reducible first | refine xgon ?_ | intro _)); (conv => whnf); (fail_if_success (fail_if_success (with_reducible first | refine xstp ?_ | refine Both.mk ?_ ?_ | refine xgon ?_ | intro _)))))
  refine FinK.mk ⟨[0], _, _, ⟨rfl, rfl⟩, ?_⟩; (repeat' first | refine And.intro ?_ ?_ | exact xeC | fail)
set_option maxRecDepth 10000 in
theorem cLeft (s : ByteArray) (a e : Nat) (ha : a ≤ s.size) (hs : s.size ≤ 140737488355328) :
    Ctr Try.prog 59 [.c (.p 0 0 0)] [.one (rdC s a e)] fun v h => v = .c (.i .i64 ((s.size : Int) - a)) ∧ h = [.one (rdC s a e)] := by
  refine Ctr.mk' tbv mixed Try.func59 rfl rfl rfl (fun _ _ => by kernel_rfl) (by kernel_rfl) (by rfl) (by rfl) (by (repeat' first | refine And.intro ?_ ?_ | exact xeC | fail)) ?_
  repeat' (first | (fail_if_success (with_reducible refine xstp ?_)); first | ((with_reducible refine And.intro (fun (hb : _ = true) => ?_) (fun (hb : _ = false) => ?_)) <;> replace hb := xnC hb <;> (try first | exact xfC | exact bff hb (by assumption) | exact bff (by assumption) hb)) | (with_reducible refine Both.mk ?_ ?_) | ((with_reducible refine And.intro ?_ ?_); focus exact xoC) | ((with_reducible refine Or.inl ⟨?_, ?_, ?_⟩); (focus rfl); focus exact xaC) | ((with_reducible refine xwB ?_ ?_); focus exact xaC) | ((with_reducible refine xwC ?_ ?_); focus exact xaC) | ((with_reducible refine xwD ?_ ?_); focus exact xaC) | ((with_reducible refine xwE ?_ ?_); focus exact xaC) | (with_reducible intro hc; (try simp only [capsP, and_true] at hc); (try exact xfC)) | ((fail_if_success (with_reducible first | refine xgon ?_ | intro _)); (conv => whnf); (fail_if_success (fail_if_success (with_reducible first | refine xstp ?_ | refine Both.mk ?_ ?_ | refine xgon ?_ | intro _)))))
  refine FinK.mk ⟨[0], _, _, ⟨rfl, rfl⟩, ?_⟩; (repeat' first | refine And.intro ?_ ?_ | exact xeC | fail)
set_option maxRecDepth 10000 in
theorem cEnd (s : ByteArray) (a e : Nat) (ha : a ≤ s.size) (hs : s.size ≤ 140737488355328) :
    Ctr Try.prog 77 [.c (.p 0 0 0)] [.one (rdC s a e)] fun v h => v = .c (.i .i64 (endV s a e : Nat)) ∧ h = [.one (rdC s a e)] := by
  refine Ctr.mk' tbv mixed Try.func77 rfl rfl rfl (fun _ _ => by kernel_rfl) (by kernel_rfl) (by rfl) (by rfl) (by (repeat' first | refine And.intro ?_ ?_ | exact xeC | fail)) ?_
  repeat' (first | (fail_if_success (with_reducible refine xstp ?_)); first | ((with_reducible refine And.intro (fun (hb : _ = true) => ?_) (fun (hb : _ = false) => ?_)) <;> replace hb := xnC hb <;> (try first | exact xfC | exact bff hb (by assumption) | exact bff (by assumption) hb)) | (with_reducible refine Both.mk ?_ ?_) | ((with_reducible refine And.intro ?_ ?_); focus exact xoC) | ((with_reducible refine Or.inl ⟨?_, ?_, ?_⟩); (focus rfl); focus exact xaC) | ((with_reducible refine xwB ?_ ?_); focus exact xaC) | ((with_reducible refine xwC ?_ ?_); focus exact xaC) | ((with_reducible refine xwD ?_ ?_); focus exact xaC) | ((with_reducible refine xwE ?_ ?_); focus exact xaC) | (with_reducible intro hc; (try simp only [capsP, and_true] at hc); (try exact xfC)) | ((fail_if_success (with_reducible first | refine xgon ?_ | intro _)); (conv => whnf); (fail_if_success (fail_if_success (with_reducible first | refine xstp ?_ | refine Both.mk ?_ ?_ | refine xgon ?_ | intro _)))))
  refine xcal (σ := [.whole 0]) (nl := []) (cErr s a e) ?_
  rintro v h' ⟨rfl, rfl⟩ hcaps
  refine xret ?_
  repeat' (first | (fail_if_success (with_reducible refine xstp ?_)); first | ((with_reducible refine And.intro (fun (hb : _ = true) => ?_) (fun (hb : _ = false) => ?_)) <;> replace hb := xnC hb <;> (try first | exact xfC | exact bff hb (by assumption) | exact bff (by assumption) hb)) | (with_reducible refine Both.mk ?_ ?_) | ((with_reducible refine And.intro ?_ ?_); focus exact xoC) | ((with_reducible refine Or.inl ⟨?_, ?_, ?_⟩); (focus rfl); focus exact xaC) | ((with_reducible refine xwB ?_ ?_); focus exact xaC) | ((with_reducible refine xwC ?_ ?_); focus exact xaC) | ((with_reducible refine xwD ?_ ?_); focus exact xaC) | ((with_reducible refine xwE ?_ ?_); focus exact xaC) | (with_reducible intro hc; (try simp only [capsP, and_true] at hc); (try exact xfC)) | ((fail_if_success (with_reducible first | refine xgon ?_ | intro _)); (conv => whnf); (fail_if_success (fail_if_success (with_reducible first | refine xstp ?_ | refine Both.mk ?_ ?_ | refine xgon ?_ | intro _)))))
  · rw [show endV s a e = e from if_neg (by omega)]
    refine FinK.mk ⟨[0], _, _, ⟨rfl, rfl⟩, ?_⟩; (repeat' first | refine And.intro ?_ ?_ | exact xeC | fail)
  · refine xcal (σ := [.whole 0]) (nl := []) (cLeft s a e ha hs) ?_
    rintro v h' ⟨rfl, rfl⟩ hcaps
    refine xret ?_
    repeat' (first | (fail_if_success (with_reducible refine xstp ?_)); first | ((with_reducible refine And.intro (fun (hb : _ = true) => ?_) (fun (hb : _ = false) => ?_)) <;> replace hb := xnC hb <;> (try first | exact xfC | exact bff hb (by assumption) | exact bff (by assumption) hb)) | (with_reducible refine Both.mk ?_ ?_) | ((with_reducible refine And.intro ?_ ?_); focus exact xoC) | ((with_reducible refine Or.inl ⟨?_, ?_, ?_⟩); (focus rfl); focus exact xaC) | ((with_reducible refine xwB ?_ ?_); focus exact xaC) | ((with_reducible refine xwC ?_ ?_); focus exact xaC) | ((with_reducible refine xwD ?_ ?_); focus exact xaC) | ((with_reducible refine xwE ?_ ?_); focus exact xaC) | (with_reducible intro hc; (try simp only [capsP, and_true] at hc); (try exact xfC)) | ((fail_if_success (with_reducible first | refine xgon ?_ | intro _)); (conv => whnf); (fail_if_success (fail_if_success (with_reducible first | refine xstp ?_ | refine Both.mk ?_ ?_ | refine xgon ?_ | intro _)))))
    · rw [show endV s a e = 3 by unfold endV; rw [if_pos (by omega), if_pos (by omega)]]
      refine FinK.mk ⟨[0], _, _, ⟨rfl, rfl⟩, ?_⟩; (repeat' first | refine And.intro ?_ ?_ | exact xeC | fail)
    · rw [show endV s a e = 0 by unfold endV; rw [if_pos (by omega), if_neg (by omega)]]
      refine FinK.mk ⟨[0], _, _, ⟨rfl, rfl⟩, ?_⟩; (repeat' first | refine And.intro ?_ ?_ | exact xeC | fail)
end Go.Proofs.Ytkjkbpnhocjenaa
namespace Go.Proofs.Ytkjkbpnhocjenaa
open Go.X
set_option linter.unusedSimpArgs false
set_option linter.unusedVariables false
namespace P4
def vS (l : List UInt8) (m : Int) : Nat × Nat × Nat :=
  if (vdec l).2.2 = 0 then (if m < 0 ∨ m < ((vdec l).1 : Nat) then (0, 0, 4) else vdec l) else (0, 0, (vdec l).2.2)
def rdS (s : ByteArray) (a e : Nat) (m : Int) : Nat × Nat × Nat :=
  if e = 0 then ((vS (s.data.toList.drop a) m).1, a + (vS (s.data.toList.drop a) m).2.1, (vS (s.data.toList.drop a) m).2.2) else (0, a, e)
theorem vS_le (l : List UInt8) (m : Int) : (vS l m).2.1 ≤ l.length := by
  have := vdec_le l
  unfold vS
  split
  · split
    · exact Nat.zero_le _
    · exact this
  · exact Nat.zero_le _
theorem vS_err (l : List UInt8) (m : Int) (h : (vS l m).2.2 ≠ 0) : (vS l m).1 = 0 ∧ (vS l m).2.1 = 0 := by
  unfold vS at h ⊢
  split at h
  · split at h
    · rename_i h1 h2
      rw [if_pos h1, if_pos h2]; exact ⟨rfl, rfl⟩
    · rename_i h1 h2
      exact absurd h1 h
  · rename_i h1
    rw [if_neg h1]; exact ⟨rfl, rfl⟩
theorem rdS_le {s : ByteArray} {a e : Nat} {m : Int} (h : a ≤ s.size) : (rdS s a e m).2.1 ≤ s.size ∧ a ≤ (rdS s a e m).2.1 := by
  unfold rdS
  split
  · have := vS_le (s.data.toList.drop a) m
    simp at this ⊢
    omega
  · exact ⟨h, Nat.le_refl _⟩
end P4
open P4
theorem rH41wS0 {σ : List Sg} {H h' : List Fam} {v : T} {K : T → List Fam → Prop} {H' : List Fam} {v' : T} {N : Nat} (hk : K v' H') (hN : H.length = N := by (try simp only [↓List.length_cons, ↓List.length_nil, Nat.reduceAdd]) <;> rfl) (h : givesF σ N H σ h' = some H' := by (try simp (maxSteps := 1000000) only [givesF, setF, updF, Fam.zeroth, Fam.rk, Ck.rk, C.rk, E.rk, T.rk, key, List.map_cons, List.map_nil, List.cons_append, List.nil_append, List.length_cons, List.length_nil, Option.map_some, Option.bind_some, Nat.reduceAdd, Nat.zero_add, Nat.add_zero, Nat.add_sub_cancel_left, Int.toNat_natCast, reps, List.all_cons, List.all_nil, C.flat, List.append_eq, Bool.not_true, Bool.and_true, Bool.or_false, Bool.or_self, Bool.not_false, List.append_nil, Bool.and_self, tri]) <;> rfl) (hv : v.rk σ N = v' := by (try simp only [givesF, setF, updF, Fam.zeroth, Fam.rk, Ck.rk, C.rk, E.rk, T.rk, key, List.map_cons, List.map_nil, List.cons_append, List.nil_append, List.length_cons, List.length_nil, Option.map_some, Option.bind_some, Nat.reduceAdd, Nat.zero_add, Nat.add_zero, Nat.add_sub_cancel_left, Int.toNat_natCast, reps, List.all_cons, List.all_nil, C.flat, List.append_eq, Bool.not_true, Bool.and_true, Bool.or_false, Bool.or_self, Bool.not_false, List.append_nil, Bool.and_self, tri]) <;> rfl) : RetG σ H h' v K := ret_mk3 hN h hv hk
set_option maxRecDepth 10000 in
theorem cSmall1 (s : ByteArray) (m : Int) (hs : s.size ≤ 140737488355328) (hm : m ≤ 9223372036854775807) :
    Ctr Try.prog 99 [.c (.s s), .c (.p 0 0 0), .c (.p 1 0 0)] [.one (.cells true [.i .i64 m]), .one (.cells true [.i .i64 0])]
      fun v h => v = .t [.c (.i .i64 ((vS s.data.toList m).2.1 : Nat)), .c (.i .i64 ((vS s.data.toList m).2.2 : Nat))] ∧ h = [.one (.cells true [.i .i64 m]), .one (.cells true [.i .i64 ((vS s.data.toList m).1 : Nat)])] := by
  refine Ctr.mk' tbv mixed Try.func99 rfl rfl rfl (fun _ _ => by kernel_rfl) (by kernel_rfl) (by rfl) (by rfl) (by (repeat' first | refine And.intro ?_ ?_ | exact xeC | fail)) ?_
  repeat' (first | (fail_if_success (with_reducible refine xstp ?_)); first | ((with_reducible refine And.intro (fun (hb : _ = true) => ?_) (fun (hb : _ = false) => ?_)) <;> replace hb := xnC hb <;> (try first | exact xfC | exact bff hb (by assumption) | exact bff (by assumption) hb)) | (with_reducible refine Both.mk ?_ ?_) | ((with_reducible refine And.intro ?_ ?_); focus exact xoC) | ((with_reducible refine Or.inl ⟨?_, ?_, ?_⟩); (focus rfl); focus exact xaC) | ((with_reducible refine xwB ?_ ?_); focus exact xaC) | ((with_reducible refine xwC ?_ ?_); focus exact xaC) | ((with_reducible refine xwD ?_ ?_); focus exact xaC) | ((with_reducible refine xwE ?_ ?_); focus exact xaC) | (with_reducible intro hc; (try simp only [capsP, and_true] at hc); (try exact xfC)) | ((fail_if_success (with_reducible first | refine xgon ?_ | intro _)); (conv => whnf); (fail_if_success (fail_if_success (with_reducible first | refine xstp ?_ | refine Both.mk ?_ ?_ | refine xgon ?_ | intro _)))))
  refine xcal (σ := []) (nl := []) (cvarint s hs) ?_
  rintro v h' ⟨rfl, rfl⟩ hcaps
  have hlt : (vdec s.data.toList).1 < 18446744073709551616 := by
    rcases vdec_err s.data.toList with h | h | h
    · exact (vdec_ok (n := (vdec s.data.toList).1) (k := (vdec s.data.toList).2.1) (by rw [← h])).1
    · simp [h]
    · simp [h]
  refine rH41wS0 ?_
  repeat' (first | (fail_if_success (with_reducible refine xstp ?_)); first | ((with_reducible refine And.intro (fun (hb : _ = true) => ?_) (fun (hb : _ = false) => ?_)) <;> replace hb := xnC hb <;> (try first | exact xfC | exact bff hb (by assumption) | exact bff (by assumption) hb)) | (with_reducible refine Both.mk ?_ ?_) | ((with_reducible refine And.intro ?_ ?_); focus exact xoC) | ((with_reducible refine Or.inl ⟨?_, ?_, ?_⟩); (focus rfl); focus exact xaC) | ((with_reducible refine xwB ?_ ?_); focus exact xaC) | ((with_reducible refine xwC ?_ ?_); focus exact xaC) | ((with_reducible refine xwD ?_ ?_); focus exact xaC) | ((with_reducible refine xwE ?_ ?_); focus exact xaC) | (with_reducible intro hc; (try simp only [capsP, and_true] at hc); (try exact xfC)) | ((fail_if_success (with_reducible first | refine xgon ?_ | intro _)); (conv => whnf); (fail_if_success (fail_if_success (with_reducible first | refine xstp ?_ | refine Both.mk ?_ ?_ | refine xgon ?_ | intro _)))))
  · rw [show vS s.data.toList m = (0, 0, (vdec s.data.toList).2.2) from if_neg (by omega)]
    refine FinK.mk ⟨[0, 1], _, _, ⟨rfl, rfl⟩, ?_⟩; (repeat' first | refine And.intro ?_ ?_ | exact xeC | fail)
  · rw [show vS s.data.toList m = (0, 0, 4) by unfold vS; rw [if_pos (by omega), if_pos (by omega)]]
    refine FinK.mk ⟨[0, 1], _, _, ⟨rfl, rfl⟩, ?_⟩; (repeat' first | refine And.intro ?_ ?_ | exact xeC | fail)
  · rw [IntKind.wrap_u64] at hb
    rw [show vS s.data.toList m = (0, 0, 4) by unfold vS; rw [if_pos (by omega), if_pos (by omega)]]
    refine FinK.mk ⟨[0, 1], _, _, ⟨rfl, rfl⟩, ?_⟩; (repeat' first | refine And.intro ?_ ?_ | exact xeC | fail)
  · rw [IntKind.wrap_u64] at hb
    rw [show vS s.data.toList m = vdec s.data.toList by unfold vS; rw [if_pos (by omega), if_neg (by omega)]]
    refine FinK.mk ⟨[0, 1], _, _, ⟨rfl, rfl⟩, ?_⟩; (repeat' first | refine And.intro ?_ ?_ | exact xeC | fail)
    · rw [IntKind.wrap_i64]; omega
    · omega
set_option maxRecDepth 10000 in
theorem cstepS (s : ByteArray) (a e : Nat) (m : Int) (ha : a ≤ s.size) (hs : s.size ≤ 140737488355328) (hm : m ≤ 9223372036854775807) :
    Ctr Try.prog 88 [.c (.p 0 0 0), .c (.fn 99 [(1, 0, 0), (2, 0, 0)])] [.one (rdC s a e), .one (.cells true [.i .i64 m]), .one (.cells true [.i .i64 0])]
      fun v h => v = .t [] ∧ h = [.one (rdC s (rdS s a e m).2.1 (rdS s a e m).2.2), .one (.cells true [.i .i64 m]), .one (.cells true [.i .i64 ((rdS s a e m).1 : Nat)])] := by
  refine Ctr.mk' tbv mixed Try.func88 rfl rfl rfl (fun _ _ => by kernel_rfl) (by kernel_rfl) (by rfl) (by rfl) (by (repeat' first | refine And.intro ?_ ?_ | exact xeC | fail)) ?_
  repeat' (first | (fail_if_success (with_reducible refine xstp ?_)); first | ((with_reducible refine And.intro (fun (hb : _ = true) => ?_) (fun (hb : _ = false) => ?_)) <;> replace hb := xnC hb <;> (try first | exact xfC | exact bff hb (by assumption) | exact bff (by assumption) hb)) | (with_reducible refine Both.mk ?_ ?_) | ((with_reducible refine And.intro ?_ ?_); focus exact xoC) | ((with_reducible refine Or.inl ⟨?_, ?_, ?_⟩); (focus rfl); focus exact xaC) | ((with_reducible refine xwB ?_ ?_); focus exact xaC) | ((with_reducible refine xwC ?_ ?_); focus exact xaC) | ((with_reducible refine xwD ?_ ?_); focus exact xaC) | ((with_reducible refine xwE ?_ ?_); focus exact xaC) | (with_reducible intro hc; (try simp only [capsP, and_true] at hc); (try exact xfC)) | ((fail_if_success (with_reducible first | refine xgon ?_ | intro _)); (conv => whnf); (fail_if_success (fail_if_success (with_reducible first | refine xstp ?_ | refine Both.mk ?_ ?_ | refine xgon ?_ | intro _)))))
  · rw [show rdS s a e m = (0, a, e) from if_neg (by omega)]
    refine FinK.mk ⟨[0, 1, 2], _, _, ⟨rfl, rfl⟩, ?_⟩; (repeat' first | refine And.intro ?_ ?_ | exact xeC | fail)
  have hu : rdS s a e m = ((vS (s.data.toList.drop a) m).1, a + (vS (s.data.toList.drop a) m).2.1, (vS (s.data.toList.drop a) m).2.2) := if_pos (by omega)
  have hz := ext_size ha
  have hl := rdS_le (e := e) (m := m) ha
  have her := vS_err (s.data.toList.drop a) m
  refine xcal (σ := [.whole 1, .whole 2]) (nl := []) (cSmall1 (s.extract a s.size) m (by omega) hm) ?_
  rintro v h' ⟨rfl, rfl⟩ hcaps
  rw [ext_list]
  rw [hu] at hl ⊢
  generalize vS (s.data.toList.drop a) m = r at *
  obtain ⟨r1, r2, r3⟩ := r
  simp only at hl her
  refine xret ?_
  repeat' (first | (fail_if_success (with_reducible refine xstp ?_)); first | ((with_reducible refine And.intro (fun (hb : _ = true) => ?_) (fun (hb : _ = false) => ?_)) <;> replace hb := xnC hb <;> (try first | exact xfC | exact bff hb (by assumption) | exact bff (by assumption) hb)) | (with_reducible refine Both.mk ?_ ?_) | ((with_reducible refine And.intro ?_ ?_); focus exact xoC) | ((with_reducible refine Or.inl ⟨?_, ?_, ?_⟩); (focus rfl); focus exact xaC) | ((with_reducible refine xwB ?_ ?_); focus exact xaC) | ((with_reducible refine xwC ?_ ?_); focus exact xaC) | ((with_reducible refine xwD ?_ ?_); focus exact xaC) | ((with_reducible refine xwE ?_ ?_); focus exact xaC) | (with_reducible intro hc; (try simp only [capsP, and_true] at hc); (try exact xfC)) | ((fail_if_success (with_reducible first | refine xgon ?_ | intro _)); (conv => whnf); (fail_if_success (fail_if_success (with_reducible first | refine xstp ?_ | refine Both.mk ?_ ?_ | refine xgon ?_ | intro _)))))
  · obtain ⟨h1, h2⟩ := her (by omega)
    refine FinK.mk ⟨[0, 1, 2], _, _, ⟨rfl, rfl⟩, ?_⟩; (repeat' first | refine And.intro ?_ ?_ | exact xeC | fail)
    all_goals (simp only; omega)
  · refine FinK.mk ⟨[0, 1, 2], _, _, ⟨rfl, rfl⟩, ?_⟩; (repeat' first | refine And.intro ?_ ?_ | exact xeC | fail)
    all_goals (simp only; omega)
set_option maxRecDepth 10000 in
theorem crSmall (s : ByteArray) (a e : Nat) (m : Int) (ha : a ≤ s.size) (hs : s.size ≤ 140737488355328) (hm : m ≤ 9223372036854775807) :
    Ctr Try.prog 79 [.c (.p 0 0 0), .c (.i .i64 m)] [.one (rdC s a e)]
      fun v h => v = .c (.i .i64 ((rdS s a e m).1 : Nat)) ∧ h = [.one (rdC s (rdS s a e m).2.1 (rdS s a e m).2.2)] := by
  refine Ctr.mk' tbv mixed Try.func79 rfl rfl rfl (fun _ _ => by kernel_rfl) (by kernel_rfl) (by rfl) (by rfl) (by (repeat' first | refine And.intro ?_ ?_ | exact xeC | fail)) ?_
  repeat' (first | (fail_if_success (with_reducible refine xstp ?_)); first | ((with_reducible refine And.intro (fun (hb : _ = true) => ?_) (fun (hb : _ = false) => ?_)) <;> replace hb := xnC hb <;> (try first | exact xfC | exact bff hb (by assumption) | exact bff (by assumption) hb)) | (with_reducible refine Both.mk ?_ ?_) | ((with_reducible refine And.intro ?_ ?_); focus exact xoC) | ((with_reducible refine Or.inl ⟨?_, ?_, ?_⟩); (focus rfl); focus exact xaC) | ((with_reducible refine xwB ?_ ?_); focus exact xaC) | ((with_reducible refine xwC ?_ ?_); focus exact xaC) | ((with_reducible refine xwD ?_ ?_); focus exact xaC) | ((with_reducible refine xwE ?_ ?_); focus exact xaC) | (with_reducible intro hc; (try simp only [capsP, and_true] at hc); (try exact xfC)) | ((fail_if_success (with_reducible first | refine xgon ?_ | intro _)); (conv => whnf); (fail_if_success (fail_if_success (with_reducible first | refine xstp ?_ | refine Both.mk ?_ ?_ | refine xgon ?_ | intro _)))))
  refine xcal (σ := [.whole 0, .whole 1, .whole 2]) (nl := []) (cstepS s a e m ha hs hm) ?_
  rintro v h' ⟨rfl, rfl⟩ hcaps
  refine xret ?_
  repeat' (first | (fail_if_success (with_reducible refine xstp ?_)); first | ((with_reducible refine And.intro (fun (hb : _ = true) => ?_) (fun (hb : _ = false) => ?_)) <;> replace hb := xnC hb <;> (try first | exact xfC | exact bff hb (by assumption) | exact bff (by assumption) hb)) | (with_reducible refine Both.mk ?_ ?_) | ((with_reducible refine And.intro ?_ ?_); focus exact xoC) | ((with_reducible refine Or.inl ⟨?_, ?_, ?_⟩); (focus rfl); focus exact xaC) | ((with_reducible refine xwB ?_ ?_); focus exact xaC) | ((with_reducible refine xwC ?_ ?_); focus exact xaC) | ((with_reducible refine xwD ?_ ?_); focus exact xaC) | ((with_reducible refine xwE ?_ ?_); focus exact xaC) | (with_reducible intro hc; (try simp only [capsP, and_true] at hc); (try exact xfC)) | ((fail_if_success (with_reducible first | refine xgon ?_ | intro _)); (conv => whnf); (fail_if_success (fail_if_success (with_reducible first | refine xstp ?_ | refine Both.mk ?_ ?_ | refine xgon ?_ | intro _)))))
  refine FinK.mk ⟨[0], _, _, ⟨rfl, rfl⟩, ?_⟩; (repeat' first | refine And.intro ?_ ?_ | exact xeC | fail)
end Go.Proofs.Ytkjkbpnhocjenaa
namespace Go.Proofs.Ytkjkbpnhocjenaa
open Go.X
set_option linter.unusedSimpArgs false
set_option linter.unusedVariables false
namespace P4
def vT (l : List UInt8) (m : Int) : List UInt8 × Nat × Nat :=
  if (vdec l).2.2 = 0 then (if m < 0 ∨ m < ((vdec l).1 : Nat) then ([], 0, 3) else if l.length - (vdec l).2.1 < (vdec l).1 then ([], 0, 1)
    else ((l.drop (vdec l).2.1).take (vdec l).1, (vdec l).2.1 + (vdec l).1, 0)) else ([], 0, (vdec l).2.2)
def rdT (s : ByteArray) (a e : Nat) (m : Int) : List UInt8 × Nat × Nat :=
  if e = 0 then ((vT (s.data.toList.drop a) m).1, a + (vT (s.data.toList.drop a) m).2.1, (vT (s.data.toList.drop a) m).2.2) else ([], a, e)
theorem vT_le (l : List UInt8) (m : Int) : (vT l m).2.1 ≤ l.length := by
  have := vdec_le l
  unfold vT
  split
  · split
    · exact Nat.zero_le _
    · split
      · exact Nat.zero_le _
      · simp only; omega
  · exact Nat.zero_le _
theorem vT_err (l : List UInt8) (m : Int) (h : (vT l m).2.2 ≠ 0) : (vT l m).1 = [] ∧ (vT l m).2.1 = 0 := by
  unfold vT at h ⊢
  split at h
  · rename_i h1
    rw [if_pos h1]
    split at h
    · rename_i h2
      rw [if_pos h2]; exact ⟨rfl, rfl⟩
    · rename_i h2
      rw [if_neg h2]
      split at h
      · rename_i h3
        rw [if_pos h3]; exact ⟨rfl, rfl⟩
      · exact absurd rfl h
  · rename_i h1
    rw [if_neg h1]; exact ⟨rfl, rfl⟩
theorem rdT_le {s : ByteArray} {a e : Nat} {m : Int} (h : a ≤ s.size) : (rdT s a e m).2.1 ≤ s.size ∧ a ≤ (rdT s a e m).2.1 := by
  unfold rdT
  split
  · have := vT_le (s.data.toList.drop a) m
    simp at this ⊢
    omega
  · exact ⟨h, Nat.le_refl _⟩
theorem ext_take (s : ByteArray) (k n : Nat) : s.extract k (k + n) = mkS ((s.data.toList.drop k).take n) := by
  conv => lhs; rw [← mkS_of s, mkS_ext]
  rw [List.drop_take]
  congr 2
  omega
end P4
open P4
theorem rH41wT0 {σ : List Sg} {H h' : List Fam} {v : T} {K : T → List Fam → Prop} {H' : List Fam} {v' : T} {N : Nat} (hk : K v' H') (hN : H.length = N := by (try simp only [↓List.length_cons, ↓List.length_nil, Nat.reduceAdd]) <;> rfl) (h : givesF σ N H σ h' = some H' := by (try simp (maxSteps := 1000000) only [givesF, setF, updF, Fam.zeroth, Fam.rk, Ck.rk, C.rk, E.rk, T.rk, key, List.map_cons, List.map_nil, List.cons_append, List.nil_append, List.length_cons, List.length_nil, Option.map_some, Option.bind_some, Nat.reduceAdd, Nat.zero_add, Nat.add_zero, Nat.add_sub_cancel_left, Int.toNat_natCast, reps, List.all_cons, List.all_nil, C.flat, List.append_eq, Bool.not_true, Bool.and_true, Bool.or_false, Bool.or_self, Bool.not_false, List.append_nil, Bool.and_self, tri]) <;> rfl) (hv : v.rk σ N = v' := by (try simp only [givesF, setF, updF, Fam.zeroth, Fam.rk, Ck.rk, C.rk, E.rk, T.rk, key, List.map_cons, List.map_nil, List.cons_append, List.nil_append, List.length_cons, List.length_nil, Option.map_some, Option.bind_some, Nat.reduceAdd, Nat.zero_add, Nat.add_zero, Nat.add_sub_cancel_left, Int.toNat_natCast, reps, List.all_cons, List.all_nil, C.flat, List.append_eq, Bool.not_true, Bool.and_true, Bool.or_false, Bool.or_self, Bool.not_false, List.append_nil, Bool.and_self, tri]) <;> rfl) : RetG σ H h' v K := ret_mk3 hN h hv hk
set_option maxRecDepth 10000 in
theorem cText1 (s : ByteArray) (m : Int) (hs : s.size ≤ 140737488355328) (hm : m ≤ 9223372036854775807) :
    Ctr Try.prog 89 [.c (.s s), .c (.p 0 0 0), .c (.p 1 0 0)] [.one (.cells true [.i .i64 m]), .one (.cells true [.s (mkS [])])]
      fun v h => v = .t [.c (.i .i64 ((vT s.data.toList m).2.1 : Nat)), .c (.i .i64 ((vT s.data.toList m).2.2 : Nat))] ∧ h = [.one (.cells true [.i .i64 m]), .one (.cells true [.s (mkS (vT s.data.toList m).1)])] := by
  refine Ctr.mk' tbv mixed Try.func89 rfl rfl rfl (fun _ _ => by kernel_rfl) (by kernel_rfl) (by rfl) (by rfl) (by (repeat' first | refine And.intro ?_ ?_ | exact xeC | fail)) ?_
  repeat' (first | (fail_if_success (with_reducible refine xstp ?_)); first | ((with_reducible refine And.intro (fun (hb : _ = true) => ?_) (fun (hb : _ = false) => ?_)) <;> replace hb := xnC hb <;> (try first | exact xfC | exact bff hb (by assumption) | exact bff (by assumption) hb)) | (with_reducible refine Both.mk ?_ ?_) | ((with_reducible refine And.intro ?_ ?_); focus exact xoC) | ((with_reducible refine Or.inl ⟨?_, ?_, ?_⟩); (focus rfl); focus exact xaC) | ((with_reducible refine xwB ?_ ?_); focus exact xaC) | ((with_reducible refine xwC ?_ ?_); focus exact xaC) | ((with_reducible refine xwD ?_ ?_); focus exact xaC) | ((with_reducible refine xwE ?_ ?_); focus exact xaC) | (with_reducible intro hc; (try simp only [capsP, and_true] at hc); (try exact xfC)) | ((fail_if_success (with_reducible first | refine xgon ?_ | intro _)); (conv => whnf); (fail_if_success (fail_if_success (with_reducible first | refine xstp ?_ | refine Both.mk ?_ ?_ | refine xgon ?_ | intro _)))))
  refine xcal (σ := []) (nl := []) (cvarint s hs) ?_
  rintro v h' ⟨rfl, rfl⟩ hcaps
  have hle := vdec_le s.data.toList
  rw [size_len] at hle
  have hlt : (vdec s.data.toList).1 < 18446744073709551616 := by
    rcases vdec_err s.data.toList with h | h | h
    · exact (vdec_ok (n := (vdec s.data.toList).1) (k := (vdec s.data.toList).2.1) (by rw [← h])).1
    · simp [h]
    · simp [h]
  refine rH41wT0 ?_
  repeat' (first | (fail_if_success (with_reducible refine xstp ?_)); first | ((with_reducible refine And.intro (fun (hb : _ = true) => ?_) (fun (hb : _ = false) => ?_)) <;> replace hb := xnC hb <;> (try first | exact xfC | exact bff hb (by assumption) | exact bff (by assumption) hb)) | (with_reducible refine Both.mk ?_ ?_) | ((with_reducible refine And.intro ?_ ?_); focus exact xoC) | ((with_reducible refine Or.inl ⟨?_, ?_, ?_⟩); (focus rfl); focus exact xaC) | ((with_reducible refine xwB ?_ ?_); focus exact xaC) | ((with_reducible refine xwC ?_ ?_); focus exact xaC) | ((with_reducible refine xwD ?_ ?_); focus exact xaC) | ((with_reducible refine xwE ?_ ?_); focus exact xaC) | (with_reducible intro hc; (try simp only [capsP, and_true] at hc); (try exact xfC)) | ((fail_if_success (with_reducible first | refine xgon ?_ | intro _)); (conv => whnf); (fail_if_success (fail_if_success (with_reducible first | refine xstp ?_ | refine Both.mk ?_ ?_ | refine xgon ?_ | intro _)))))
  · rw [show vT s.data.toList m = ([], 0, (vdec s.data.toList).2.2) from if_neg (by omega)]
    refine FinK.mk ⟨[0, 1], _, _, ⟨rfl, rfl⟩, ?_⟩; (repeat' first | refine And.intro ?_ ?_ | exact xeC | fail)
  · rw [show vT s.data.toList m = ([], 0, 3) by unfold vT; rw [if_pos (by omega), if_pos (by omega)]]
    refine FinK.mk ⟨[0, 1], _, _, ⟨rfl, rfl⟩, ?_⟩; (repeat' first | refine And.intro ?_ ?_ | exact xeC | fail)
  · rw [IntKind.wrap_u64] at hb
    rw [show vT s.data.toList m = ([], 0, 3) by unfold vT; rw [if_pos (by omega), if_pos (by omega)]]
    refine FinK.mk ⟨[0, 1], _, _, ⟨rfl, rfl⟩, ?_⟩; (repeat' first | refine And.intro ?_ ?_ | exact xeC | fail)
  · rename_i h1 h2 h3
    rw [IntKind.wrap_u64] at hb h3
    rw [show vT s.data.toList m = ([], 0, 1) by unfold vT; rw [size_len, if_pos (by omega), if_neg (by omega), if_pos (by omega)]]
    refine FinK.mk ⟨[0, 1], _, _, ⟨rfl, rfl⟩, ?_⟩; (repeat' first | refine And.intro ?_ ?_ | exact xeC | fail)
  rename_i h1 h2 h3
  rw [IntKind.wrap_u64] at hb h3
  have hw : IntKind.i64.wrap ((vdec s.data.toList).1 : Nat) = ((vdec s.data.toList).1 : Nat) := by rw [IntKind.wrap_i64]; omega
  rw [hw]
  repeat' (first | (fail_if_success (with_reducible refine xstp ?_)); first | ((with_reducible refine And.intro (fun (hb : _ = true) => ?_) (fun (hb : _ = false) => ?_)) <;> replace hb := xnC hb <;> (try first | exact xfC | exact bff hb (by assumption) | exact bff (by assumption) hb)) | (with_reducible refine Both.mk ?_ ?_) | ((with_reducible refine And.intro ?_ ?_); focus exact xoC) | ((with_reducible refine Or.inl ⟨?_, ?_, ?_⟩); (focus rfl); focus exact xaC) | ((with_reducible refine xwB ?_ ?_); focus exact xaC) | ((with_reducible refine xwC ?_ ?_); focus exact xaC) | ((with_reducible refine xwD ?_ ?_); focus exact xaC) | ((with_reducible refine xwE ?_ ?_); focus exact xaC) | (with_reducible intro hc; (try simp only [capsP, and_true] at hc); (try exact xfC)) | ((fail_if_success (with_reducible first | refine xgon ?_ | intro _)); (conv => whnf); (fail_if_success (fail_if_success (with_reducible first | refine xstp ?_ | refine Both.mk ?_ ?_ | refine xgon ?_ | intro _)))))
  rw [show vT s.data.toList m = ((s.data.toList.drop (vdec s.data.toList).2.1).take (vdec s.data.toList).1, (vdec s.data.toList).2.1 + (vdec s.data.toList).1, 0) by unfold vT; rw [size_len, if_pos (by omega), if_neg (by omega), if_neg (by omega)]]
  refine FinK.mk ⟨[0, 1], _, _, ⟨rfl, rfl⟩, ?_⟩; (repeat' first | refine And.intro ?_ ?_ | exact xeC | fail)
  all_goals first | rfl | (rw [at_nat, Int.toNat_natCast, ext_take]; done) | (simp only; omega)
set_option maxRecDepth 10000 in
theorem cstepT (s : ByteArray) (a e : Nat) (m : Int) (ha : a ≤ s.size) (hs : s.size ≤ 140737488355328) (hm : m ≤ 9223372036854775807) :
    Ctr Try.prog 88 [.c (.p 0 0 0), .c (.fn 89 [(1, 0, 0), (2, 0, 0)])] [.one (rdC s a e), .one (.cells true [.i .i64 m]), .one (.cells true [.s (mkS [])])]
      fun v h => v = .t [] ∧ h = [.one (rdC s (rdT s a e m).2.1 (rdT s a e m).2.2), .one (.cells true [.i .i64 m]), .one (.cells true [.s (mkS (rdT s a e m).1)])] := by
  refine Ctr.mk' tbv mixed Try.func88 rfl rfl rfl (fun _ _ => by kernel_rfl) (by kernel_rfl) (by rfl) (by rfl) (by (repeat' first | refine And.intro ?_ ?_ | exact xeC | fail)) ?_
  repeat' (first | (fail_if_success (with_reducible refine xstp ?_)); first | ((with_reducible refine And.intro (fun (hb : _ = true) => ?_) (fun (hb : _ = false) => ?_)) <;> replace hb := xnC hb <;> (try first | exact xfC | exact bff hb (by assumption) | exact bff (by assumption) hb)) | (with_reducible refine Both.mk ?_ ?_) | ((with_reducible refine And.intro ?_ ?_); focus exact xoC) | ((with_reducible refine Or.inl ⟨?_, ?_, ?_⟩); (focus rfl); focus exact xaC) | ((with_reducible refine xwB ?_ ?_); focus exact xaC) | ((with_reducible refine xwC ?_ ?_); focus exact xaC) | ((with_reducible refine xwD ?_ ?_); focus exact xaC) | ((with_reducible refine xwE ?_ ?_); focus exact xaC) | (with_reducible intro hc; (try simp only [capsP, and_true] at hc); (try exact xfC)) | ((fail_if_success (with_reducible first | refine xgon ?_ | intro _)); (conv => whnf); (fail_if_success (fail_if_success (with_reducible first | refine xstp ?_ | refine Both.mk ?_ ?_ | refine xgon ?_ | intro _)))))
  · rw [show rdT s a e m = ([], a, e) from if_neg (by omega)]
    refine FinK.mk ⟨[0, 1, 2], _, _, ⟨rfl, rfl⟩, ?_⟩; (repeat' first | refine And.intro ?_ ?_ | exact xeC | fail)
  have hu : rdT s a e m = ((vT (s.data.toList.drop a) m).1, a + (vT (s.data.toList.drop a) m).2.1, (vT (s.data.toList.drop a) m).2.2) := if_pos (by omega)
  have hz := ext_size ha
  have hl := rdT_le (e := e) (m := m) ha
  have her := vT_err (s.data.toList.drop a) m
  refine xcal (σ := [.whole 1, .whole 2]) (nl := []) (cText1 (s.extract a s.size) m (by omega) hm) ?_
  rintro v h' ⟨rfl, rfl⟩ hcaps
  rw [ext_list]
  rw [hu] at hl ⊢
  generalize vT (s.data.toList.drop a) m = r at *
  obtain ⟨r1, r2, r3⟩ := r
  simp only at hl her
  refine xret ?_
  repeat' (first | (fail_if_success (with_reducible refine xstp ?_)); first | ((with_reducible refine And.intro (fun (hb : _ = true) => ?_) (fun (hb : _ = false) => ?_)) <;> replace hb := xnC hb <;> (try first | exact xfC | exact bff hb (by assumption) | exact bff (by assumption) hb)) | (with_reducible refine Both.mk ?_ ?_) | ((with_reducible refine And.intro ?_ ?_); focus exact xoC) | ((with_reducible refine Or.inl ⟨?_, ?_, ?_⟩); (focus rfl); focus exact xaC) | ((with_reducible refine xwB ?_ ?_); focus exact xaC) | ((with_reducible refine xwC ?_ ?_); focus exact xaC) | ((with_reducible refine xwD ?_ ?_); focus exact xaC) | ((with_reducible refine xwE ?_ ?_); focus exact xaC) | (with_reducible intro hc; (try simp only [capsP, and_true] at hc); (try exact xfC)) | ((fail_if_success (with_reducible first | refine xgon ?_ | intro _)); (conv => whnf); (fail_if_success (fail_if_success (with_reducible first | refine xstp ?_ | refine Both.mk ?_ ?_ | refine xgon ?_ | intro _)))))
  · obtain ⟨h1, h2⟩ := her (by omega)
    refine FinK.mk ⟨[0, 1, 2], _, _, ⟨rfl, rfl⟩, ?_⟩; (repeat' first | refine And.intro ?_ ?_ | exact xeC | fail)
    all_goals (simp only; omega)
  · refine FinK.mk ⟨[0, 1, 2], _, _, ⟨rfl, rfl⟩, ?_⟩; (repeat' first | refine And.intro ?_ ?_ | exact xeC | fail)
    all_goals (simp only; omega)
set_option maxRecDepth 10000 in
theorem crText (s : ByteArray) (a e : Nat) (m : Int) (ha : a ≤ s.size) (hs : s.size ≤ 140737488355328) (hm : m ≤ 9223372036854775807) :
    Ctr Try.prog 60 [.c (.p 0 0 0), .c (.i .i64 m)] [.one (rdC s a e)]
      fun v h => v = .c (.s (mkS (rdT s a e m).1)) ∧ h = [.one (rdC s (rdT s a e m).2.1 (rdT s a e m).2.2)] := by
  refine Ctr.mk' tbv mixed Try.func60 rfl rfl rfl (fun _ _ => by kernel_rfl) (by kernel_rfl) (by rfl) (by rfl) (by (repeat' first | refine And.intro ?_ ?_ | exact xeC | fail)) ?_
  repeat' (first | (fail_if_success (with_reducible refine xstp ?_)); first | ((with_reducible refine And.intro (fun (hb : _ = true) => ?_) (fun (hb : _ = false) => ?_)) <;> replace hb := xnC hb <;> (try first | exact xfC | exact bff hb (by assumption) | exact bff (by assumption) hb)) | (with_reducible refine Both.mk ?_ ?_) | ((with_reducible refine And.intro ?_ ?_); focus exact xoC) | ((with_reducible refine Or.inl ⟨?_, ?_, ?_⟩); (focus rfl); focus exact xaC) | ((with_reducible refine xwB ?_ ?_); focus exact xaC) | ((with_reducible refine xwC ?_ ?_); focus exact xaC) | ((with_reducible refine xwD ?_ ?_); focus exact xaC) | ((with_reducible refine xwE ?_ ?_); focus exact xaC) | (with_reducible intro hc; (try simp only [capsP, and_true] at hc); (try exact xfC)) | ((fail_if_success (with_reducible first | refine xgon ?_ | intro _)); (conv => whnf); (fail_if_success (fail_if_success (with_reducible first | refine xstp ?_ | refine Both.mk ?_ ?_ | refine xgon ?_ | intro _)))))
  refine xcal (σ := [.whole 0, .whole 1, .whole 2]) (nl := []) (cstepT s a e m ha hs hm) ?_
  rintro v h' ⟨rfl, rfl⟩ hcaps
  refine xret ?_
  repeat' (first | (fail_if_success (with_reducible refine xstp ?_)); first | ((with_reducible refine And.intro (fun (hb : _ = true) => ?_) (fun (hb : _ = false) => ?_)) <;> replace hb := xnC hb <;> (try first | exact xfC | exact bff hb (by assumption) | exact bff (by assumption) hb)) | (with_reducible refine Both.mk ?_ ?_) | ((with_reducible refine And.intro ?_ ?_); focus exact xoC) | ((with_reducible refine Or.inl ⟨?_, ?_, ?_⟩); (focus rfl); focus exact xaC) | ((with_reducible refine xwB ?_ ?_); focus exact xaC) | ((with_reducible refine xwC ?_ ?_); focus exact xaC) | ((with_reducible refine xwD ?_ ?_); focus exact xaC) | ((with_reducible refine xwE ?_ ?_); focus exact xaC) | (with_reducible intro hc; (try simp only [capsP, and_true] at hc); (try exact xfC)) | ((fail_if_success (with_reducible first | refine xgon ?_ | intro _)); (conv => whnf); (fail_if_success (fail_if_success (with_reducible first | refine xstp ?_ | refine Both.mk ?_ ?_ | refine xgon ?_ | intro _)))))
  refine FinK.mk ⟨[0], _, _, ⟨rfl, rfl⟩, ?_⟩; (repeat' first | refine And.intro ?_ ?_ | exact xeC | fail)
end Go.Proofs.Ytkjkbpnhocjenaa
namespace Go.Proofs.Ytkjkbpnhocjenaa
open Go.X
set_option linter.unusedSimpArgs false
set_option linter.unusedVariables false
open P4
theorem rH41wE0 {σ : List Sg} {H h' : List Fam} {v : T} {K : T → List Fam → Prop} {H' : List Fam} {v' : T} {N : Nat} (hk : K v' H') (hN : H.length = N := by (try simp only [↓List.length_cons, ↓List.length_nil, Nat.reduceAdd]) <;> rfl) (h : givesF σ N H σ h' = some H' := by (try simp (maxSteps := 1000000) only [givesF, setF, updF, Fam.zeroth, Fam.rk, Ck.rk, C.rk, E.rk, T.rk, key, List.map_cons, List.map_nil, List.cons_append, List.nil_append, List.length_cons, List.length_nil, Option.map_some, Option.bind_some, Nat.reduceAdd, Nat.zero_add, Nat.add_zero, Nat.add_sub_cancel_left, Int.toNat_natCast, reps, List.all_cons, List.all_nil, C.flat, List.append_eq, Bool.not_true, Bool.and_true, Bool.or_false, Bool.or_self, Bool.not_false, List.append_nil, Bool.and_self, tri]) <;> rfl) (hv : v.rk σ N = v' := by (try simp only [givesF, setF, updF, Fam.zeroth, Fam.rk, Ck.rk, C.rk, E.rk, T.rk, key, List.map_cons, List.map_nil, List.cons_append, List.nil_append, List.length_cons, List.length_nil, Option.map_some, Option.bind_some, Nat.reduceAdd, Nat.zero_add, Nat.add_zero, Nat.add_sub_cancel_left, Int.toNat_natCast, reps, List.all_cons, List.all_nil, C.flat, List.append_eq, Bool.not_true, Bool.and_true, Bool.or_false, Bool.or_self, Bool.not_false, List.append_nil, Bool.and_self, tri]) <;> rfl) : RetG σ H h' v K := ret_mk3 hN h hv hk
set_option maxRecDepth 10000 in
theorem cUint1 (s : ByteArray) (x : Int) (hs : s.size ≤ 140737488355328) :
    Ctr Try.prog 98 [.c (.s s), .c (.p 0 0 0)] [.one (.cells true [.i .u64 x])]
      fun v h => v = .t [.c (.i .i64 ((vdec s.data.toList).2.1 : Nat)), .c (.i .i64 ((vdec s.data.toList).2.2 : Nat))] ∧ h = [.one (.cells true [.i .u64 ((vdec s.data.toList).1 : Nat)])] := by
  refine Ctr.mk' tbv mixed Try.func98 rfl rfl rfl (fun _ _ => by kernel_rfl) (by kernel_rfl) (by rfl) (by rfl) (by (repeat' first | refine And.intro ?_ ?_ | exact xeC | fail)) ?_
  repeat' (first | (fail_if_success (with_reducible refine xstp ?_)); first | ((with_reducible refine And.intro (fun (hb : _ = true) => ?_) (fun (hb : _ = false) => ?_)) <;> replace hb := xnC hb <;> (try first | exact xfC | exact bff hb (by assumption) | exact bff (by assumption) hb)) | (with_reducible refine Both.mk ?_ ?_) | ((with_reducible refine And.intro ?_ ?_); focus exact xoC) | ((with_reducible refine Or.inl ⟨?_, ?_, ?_⟩); (focus rfl); focus exact xaC) | ((with_reducible refine xwB ?_ ?_); focus exact xaC) | ((with_reducible refine xwC ?_ ?_); focus exact xaC) | ((with_reducible refine xwD ?_ ?_); focus exact xaC) | ((with_reducible refine xwE ?_ ?_); focus exact xaC) | (with_reducible intro hc; (try simp only [capsP, and_true] at hc); (try exact xfC)) | ((fail_if_success (with_reducible first | refine xgon ?_ | intro _)); (conv => whnf); (fail_if_success (fail_if_success (with_reducible first | refine xstp ?_ | refine Both.mk ?_ ?_ | refine xgon ?_ | intro _)))))
  refine xcal (σ := []) (nl := []) (cvarint s hs) ?_
  rintro v h' ⟨rfl, rfl⟩ hcaps
  refine rH41wE0 ?_
  repeat' (first | (fail_if_success (with_reducible refine xstp ?_)); first | ((with_reducible refine And.intro (fun (hb : _ = true) => ?_) (fun (hb : _ = false) => ?_)) <;> replace hb := xnC hb <;> (try first | exact xfC | exact bff hb (by assumption) | exact bff (by assumption) hb)) | (with_reducible refine Both.mk ?_ ?_) | ((with_reducible refine And.intro ?_ ?_); focus exact xoC) | ((with_reducible refine Or.inl ⟨?_, ?_, ?_⟩); (focus rfl); focus exact xaC) | ((with_reducible refine xwB ?_ ?_); focus exact xaC) | ((with_reducible refine xwC ?_ ?_); focus exact xaC) | ((with_reducible refine xwD ?_ ?_); focus exact xaC) | ((with_reducible refine xwE ?_ ?_); focus exact xaC) | (with_reducible intro hc; (try simp only [capsP, and_true] at hc); (try exact xfC)) | ((fail_if_success (with_reducible first | refine xgon ?_ | intro _)); (conv => whnf); (fail_if_success (fail_if_success (with_reducible first | refine xstp ?_ | refine Both.mk ?_ ?_ | refine xgon ?_ | intro _)))))
  refine FinK.mk ⟨[0], _, _, ⟨rfl, rfl⟩, ?_⟩; (repeat' first | refine And.intro ?_ ?_ | exact xeC | fail)
set_option maxRecDepth 10000 in
theorem cstepU (s : ByteArray) (a e : Nat) (ha : a ≤ s.size) (hs : s.size ≤ 140737488355328) :
    Ctr Try.prog 88 [.c (.p 0 0 0), .c (.fn 98 [(1, 0, 0)])] [.one (rdC s a e), .one (.cells true [.i .u64 0])]
      fun v h => v = .t [] ∧ h = [.one (rdC s (rdU s a e).2.1 (rdU s a e).2.2), .one (.cells true [.i .u64 ((rdU s a e).1 : Nat)])] := by
  refine Ctr.mk' tbv mixed Try.func88 rfl rfl rfl (fun _ _ => by kernel_rfl) (by kernel_rfl) (by rfl) (by rfl) (by (repeat' first | refine And.intro ?_ ?_ | exact xeC | fail)) ?_
  repeat' (first | (fail_if_success (with_reducible refine xstp ?_)); first | ((with_reducible refine And.intro (fun (hb : _ = true) => ?_) (fun (hb : _ = false) => ?_)) <;> replace hb := xnC hb <;> (try first | exact xfC | exact bff hb (by assumption) | exact bff (by assumption) hb)) | (with_reducible refine Both.mk ?_ ?_) | ((with_reducible refine And.intro ?_ ?_); focus exact xoC) | ((with_reducible refine Or.inl ⟨?_, ?_, ?_⟩); (focus rfl); focus exact xaC) | ((with_reducible refine xwB ?_ ?_); focus exact xaC) | ((with_reducible refine xwC ?_ ?_); focus exact xaC) | ((with_reducible refine xwD ?_ ?_); focus exact xaC) | ((with_reducible refine xwE ?_ ?_); focus exact xaC) | (with_reducible intro hc; (try simp only [capsP, and_true] at hc); (try exact xfC)) | ((fail_if_success (with_reducible first | refine xgon ?_ | intro _)); (conv => whnf); (fail_if_success (fail_if_success (with_reducible first | refine xstp ?_ | refine Both.mk ?_ ?_ | refine xgon ?_ | intro _)))))
  · rw [show rdU s a e = (0, a, e) from if_neg (by omega)]
    refine FinK.mk ⟨[0, 1], _, _, ⟨rfl, rfl⟩, ?_⟩; (repeat' first | refine And.intro ?_ ?_ | exact xeC | fail)
  have hu : rdU s a e = ((vdec (s.data.toList.drop a)).1, a + (vdec (s.data.toList.drop a)).2.1, (vdec (s.data.toList.drop a)).2.2) := if_pos (by omega)
  have hz := ext_size ha
  have hl := rdU_le (e := e) ha
  have her := rdU_err s a e
  refine xcal (σ := [.whole 1]) (nl := []) (cUint1 (s.extract a s.size) 0 (by omega)) ?_
  rintro v h' ⟨rfl, rfl⟩ hcaps
  rw [ext_list]
  rw [hu] at hl her ⊢
  generalize vdec (s.data.toList.drop a) = r at *
  obtain ⟨r1, r2, r3⟩ := r
  simp only at hl her
  refine xret ?_
  repeat' (first | (fail_if_success (with_reducible refine xstp ?_)); first | ((with_reducible refine And.intro (fun (hb : _ = true) => ?_) (fun (hb : _ = false) => ?_)) <;> replace hb := xnC hb <;> (try first | exact xfC | exact bff hb (by assumption) | exact bff (by assumption) hb)) | (with_reducible refine Both.mk ?_ ?_) | ((with_reducible refine And.intro ?_ ?_); focus exact xoC) | ((with_reducible refine Or.inl ⟨?_, ?_, ?_⟩); (focus rfl); focus exact xaC) | ((with_reducible refine xwB ?_ ?_); focus exact xaC) | ((with_reducible refine xwC ?_ ?_); focus exact xaC) | ((with_reducible refine xwD ?_ ?_); focus exact xaC) | ((with_reducible refine xwE ?_ ?_); focus exact xaC) | (with_reducible intro hc; (try simp only [capsP, and_true] at hc); (try exact xfC)) | ((fail_if_success (with_reducible first | refine xgon ?_ | intro _)); (conv => whnf); (fail_if_success (fail_if_success (with_reducible first | refine xstp ?_ | refine Both.mk ?_ ?_ | refine xgon ?_ | intro _)))))
  · obtain ⟨h1, h2⟩ := her (by omega)
    refine FinK.mk ⟨[0, 1], _, _, ⟨rfl, rfl⟩, ?_⟩; (repeat' first | refine And.intro ?_ ?_ | exact xeC | fail)
    all_goals (simp only; omega)
  · refine FinK.mk ⟨[0, 1], _, _, ⟨rfl, rfl⟩, ?_⟩; (repeat' first | refine And.intro ?_ ?_ | exact xeC | fail)
    all_goals (simp only; omega)
set_option maxRecDepth 10000 in
theorem crUint (s : ByteArray) (a e : Nat) (ha : a ≤ s.size) (hs : s.size ≤ 140737488355328) :
    Ctr Try.prog 78 [.c (.p 0 0 0)] [.one (rdC s a e)]
      fun v h => v = .c (.i .u64 ((rdU s a e).1 : Nat)) ∧ h = [.one (rdC s (rdU s a e).2.1 (rdU s a e).2.2)] := by
  refine Ctr.mk' tbv mixed Try.func78 rfl rfl rfl (fun _ _ => by kernel_rfl) (by kernel_rfl) (by rfl) (by rfl) (by (repeat' first | refine And.intro ?_ ?_ | exact xeC | fail)) ?_
  repeat' (first | (fail_if_success (with_reducible refine xstp ?_)); first | ((with_reducible refine And.intro (fun (hb : _ = true) => ?_) (fun (hb : _ = false) => ?_)) <;> replace hb := xnC hb <;> (try first | exact xfC | exact bff hb (by assumption) | exact bff (by assumption) hb)) | (with_reducible refine Both.mk ?_ ?_) | ((with_reducible refine And.intro ?_ ?_); focus exact xoC) | ((with_reducible refine Or.inl ⟨?_, ?_, ?_⟩); (focus rfl); focus exact xaC) | ((with_reducible refine xwB ?_ ?_); focus exact xaC) | ((with_reducible refine xwC ?_ ?_); focus exact xaC) | ((with_reducible refine xwD ?_ ?_); focus exact xaC) | ((with_reducible refine xwE ?_ ?_); focus exact xaC) | (with_reducible intro hc; (try simp only [capsP, and_true] at hc); (try exact xfC)) | ((fail_if_success (with_reducible first | refine xgon ?_ | intro _)); (conv => whnf); (fail_if_success (fail_if_success (with_reducible first | refine xstp ?_ | refine Both.mk ?_ ?_ | refine xgon ?_ | intro _)))))
  refine xcal (σ := [.whole 0, .whole 1]) (nl := []) (cstepU s a e ha hs) ?_
  rintro v h' ⟨rfl, rfl⟩ hcaps
  refine xret ?_
  repeat' (first | (fail_if_success (with_reducible refine xstp ?_)); first | ((with_reducible refine And.intro (fun (hb : _ = true) => ?_) (fun (hb : _ = false) => ?_)) <;> replace hb := xnC hb <;> (try first | exact xfC | exact bff hb (by assumption) | exact bff (by assumption) hb)) | (with_reducible refine Both.mk ?_ ?_) | ((with_reducible refine And.intro ?_ ?_); focus exact xoC) | ((with_reducible refine Or.inl ⟨?_, ?_, ?_⟩); (focus rfl); focus exact xaC) | ((with_reducible refine xwB ?_ ?_); focus exact xaC) | ((with_reducible refine xwC ?_ ?_); focus exact xaC) | ((with_reducible refine xwD ?_ ?_); focus exact xaC) | ((with_reducible refine xwE ?_ ?_); focus exact xaC) | (with_reducible intro hc; (try simp only [capsP, and_true] at hc); (try exact xfC)) | ((fail_if_success (with_reducible first | refine xgon ?_ | intro _)); (conv => whnf); (fail_if_success (fail_if_success (with_reducible first | refine xstp ?_ | refine Both.mk ?_ ?_ | refine xgon ?_ | intro _)))))
  refine FinK.mk ⟨[0], _, _, ⟨rfl, rfl⟩, ?_⟩; (repeat' first | refine And.intro ?_ ?_ | exact xeC | fail)
end Go.Proofs.Ytkjkbpnhocjenaa
namespace Go.Proofs.Ytkjkbpnhocjenaa
open Go.X
set_option linter.unusedSimpArgs false
set_option linter.unusedVariables false
open P4
namespace P4
abbrev rv (s : ByteArray) (a e : Nat) : List C := [.s s, .i .i64 (a : Nat), .i .i64 (e : Nat)]
theorem rdS_U (s : ByteArray) (a e : Nat) (m : Int) : rdS s a e m = if (rdU s a e).2.2 = 0 then (if m < 0 ∨ m < ((rdU s a e).1 : Nat) then (0, a, 4) else rdU s a e) else (0, a, (rdU s a e).2.2) := by
  unfold rdS rdU vS
  by_cases h : e = 0
  · simp only [if_pos h]
    by_cases h2 : (vdec (s.data.toList.drop a)).2.2 = 0
    · simp only [if_pos h2]
      by_cases h3 : m < 0 ∨ m < ((vdec (s.data.toList.drop a)).1 : Nat)
      · simp only [if_pos h3, Nat.add_zero]
      · simp only [if_neg h3]
    · simp only [if_neg h2, Nat.add_zero]
  · simp only [if_neg h]
theorem rdT_U (s : ByteArray) (a e : Nat) (m : Int) : rdT s a e m = if (rdU s a e).2.2 = 0 then (if m < 0 ∨ m < ((rdU s a e).1 : Nat) then ([], a, 3) else
    if s.size - (rdU s a e).2.1 < (rdU s a e).1 then ([], a, 1) else ((s.data.toList.drop (rdU s a e).2.1).take (rdU s a e).1, (rdU s a e).2.1 + (rdU s a e).1, 0)) else ([], a, (rdU s a e).2.2) := by
  unfold rdT rdU vT
  by_cases h : e = 0
  · simp only [if_pos h]
    by_cases h2 : (vdec (s.data.toList.drop a)).2.2 = 0
    · simp only [if_pos h2]
      by_cases h3 : m < 0 ∨ m < ((vdec (s.data.toList.drop a)).1 : Nat)
      · simp only [if_pos h3, Nat.add_zero]
      · simp only [if_neg h3, List.length_drop, size_len, Nat.sub_sub]
        by_cases h4 : s.size - (a + (vdec (s.data.toList.drop a)).2.1) < (vdec (s.data.toList.drop a)).1
        · simp only [if_pos h4, Nat.add_zero]
        · simp only [if_neg h4, List.drop_drop, Nat.add_assoc]
    · simp only [if_neg h2, Nat.add_zero]
  · simp only [if_neg h]
end P4
set_option maxRecDepth 10000 in
theorem cfailed (s : ByteArray) (a e e' : Nat) :
    Ctr Try.prog 92 [.a (rv s a e), .c (.i .i64 (e' : Nat))] [] fun v h => v = .a (rv s a e') ∧ h = [] := by
  refine Ctr.mk' tbv mixed Try.func92 rfl rfl rfl (fun _ _ => by kernel_rfl) (by kernel_rfl) (by rfl) (by rfl) (by (repeat' first | refine And.intro ?_ ?_ | exact xeC | fail)) ?_
  repeat' (first | (fail_if_success (with_reducible refine xstp ?_)); first | ((with_reducible refine And.intro (fun (hb : _ = true) => ?_) (fun (hb : _ = false) => ?_)) <;> replace hb := xnC hb <;> (try first | exact xfC | exact bff hb (by assumption) | exact bff (by assumption) hb)) | (with_reducible refine Both.mk ?_ ?_) | ((with_reducible refine And.intro ?_ ?_); focus exact xoC) | ((with_reducible refine Or.inl ⟨?_, ?_, ?_⟩); (focus rfl); focus exact xaC) | ((with_reducible refine xwB ?_ ?_); focus exact xaC) | ((with_reducible refine xwC ?_ ?_); focus exact xaC) | ((with_reducible refine xwD ?_ ?_); focus exact xaC) | ((with_reducible refine xwE ?_ ?_); focus exact xaC) | (with_reducible intro hc; (try simp only [capsP, and_true] at hc); (try exact xfC)) | ((fail_if_success (with_reducible first | refine xgon ?_ | intro _)); (conv => whnf); (fail_if_success (fail_if_success (with_reducible first | refine xstp ?_ | refine Both.mk ?_ ?_ | refine xgon ?_ | intro _)))))
  refine FinK.mk ⟨[], _, _, ⟨rfl, rfl⟩, ?_⟩; (repeat' first | refine And.intro ?_ ?_ | exact xeC | fail)
theorem rH41wR0 {σ : List Sg} {H h' : List Fam} {v : T} {K : T → List Fam → Prop} {H' : List Fam} {v' : T} {N : Nat} (hk : K v' H') (hN : H.length = N := by (try simp only [↓List.length_cons, ↓List.length_nil, Nat.reduceAdd]) <;> rfl) (h : givesF σ N H σ h' = some H' := by (try simp (maxSteps := 1000000) only [givesF, setF, updF, Fam.zeroth, Fam.rk, Ck.rk, C.rk, E.rk, T.rk, key, List.map_cons, List.map_nil, List.cons_append, List.nil_append, List.length_cons, List.length_nil, Option.map_some, Option.bind_some, Nat.reduceAdd, Nat.zero_add, Nat.add_zero, Nat.add_sub_cancel_left, Int.toNat_natCast, reps, List.all_cons, List.all_nil, C.flat, List.append_eq, Bool.not_true, Bool.and_true, Bool.or_false, Bool.or_self, Bool.not_false, List.append_nil, Bool.and_self, triR]) <;> rfl) (hv : v.rk σ N = v' := by (try simp only [givesF, setF, updF, Fam.zeroth, Fam.rk, Ck.rk, C.rk, E.rk, T.rk, key, List.map_cons, List.map_nil, List.cons_append, List.nil_append, List.length_cons, List.length_nil, Option.map_some, Option.bind_some, Nat.reduceAdd, Nat.zero_add, Nat.add_zero, Nat.add_sub_cancel_left, Int.toNat_natCast, reps, List.all_cons, List.all_nil, C.flat, List.append_eq, Bool.not_true, Bool.and_true, Bool.or_false, Bool.or_self, Bool.not_false, List.append_nil, Bool.and_self, triR]) <;> rfl) : RetG σ H h' v K := ret_mk3 hN h hv hk
set_option maxRecDepth 10000 in
theorem cRUint (s : ByteArray) (a e : Nat) (ha : a ≤ s.size) (hs : s.size ≤ 140737488355328) :
    Ctr Try.prog 91 [.a (rv s a e)] []
      fun v h => v = .t [.a (rv s (rdU s a e).2.1 (rdU s a e).2.2), .c (.i .u64 ((rdU s a e).1 : Nat))] ∧ h = [] := by
  refine Ctr.mk' tbv mixed Try.func91 rfl rfl rfl (fun _ _ => by kernel_rfl) (by kernel_rfl) (by rfl) (by rfl) (by (repeat' first | refine And.intro ?_ ?_ | exact xeC | fail)) ?_
  repeat' (first | (fail_if_success (with_reducible refine xstp ?_)); first | ((with_reducible refine And.intro (fun (hb : _ = true) => ?_) (fun (hb : _ = false) => ?_)) <;> replace hb := xnC hb <;> (try first | exact xfC | exact bff hb (by assumption) | exact bff (by assumption) hb)) | (with_reducible refine Both.mk ?_ ?_) | ((with_reducible refine And.intro ?_ ?_); focus exact xoC) | ((with_reducible refine Or.inl ⟨?_, ?_, ?_⟩); (focus rfl); focus exact xaC) | ((with_reducible refine xwB ?_ ?_); focus exact xaC) | ((with_reducible refine xwC ?_ ?_); focus exact xaC) | ((with_reducible refine xwD ?_ ?_); focus exact xaC) | ((with_reducible refine xwE ?_ ?_); focus exact xaC) | (with_reducible intro hc; (try simp only [capsP, and_true] at hc); (try exact xfC)) | ((fail_if_success (with_reducible first | refine xgon ?_ | intro _)); (conv => whnf); (fail_if_success (fail_if_success (with_reducible first | refine xstp ?_ | refine Both.mk ?_ ?_ | refine xgon ?_ | intro _)))))
  · rw [show rdU s a e = (0, a, e) from if_neg (by omega)]
    refine FinK.mk ⟨[], _, _, ⟨rfl, rfl⟩, ?_⟩; (repeat' first | refine And.intro ?_ ?_ | exact xeC | fail)
  have hu : rdU s a e = ((vdec (s.data.toList.drop a)).1, a + (vdec (s.data.toList.drop a)).2.1, (vdec (s.data.toList.drop a)).2.2) := if_pos (by omega)
  have her := rdU_err s a e
  refine xcal (σ := []) (nl := []) (cvarintR s a hs ha) ?_
  rintro v h' ⟨rfl, rfl⟩ hcaps
  rw [hu] at her ⊢
  generalize vdec (s.data.toList.drop a) = r at *
  obtain ⟨r1, r2, r3⟩ := r
  simp only at her
  refine rH41wR0 ?_
  repeat' (first | (fail_if_success (with_reducible refine xstp ?_)); first | ((with_reducible refine And.intro (fun (hb : _ = true) => ?_) (fun (hb : _ = false) => ?_)) <;> replace hb := xnC hb <;> (try first | exact xfC | exact bff hb (by assumption) | exact bff (by assumption) hb)) | (with_reducible refine Both.mk ?_ ?_) | ((with_reducible refine And.intro ?_ ?_); focus exact xoC) | ((with_reducible refine Or.inl ⟨?_, ?_, ?_⟩); (focus rfl); focus exact xaC) | ((with_reducible refine xwB ?_ ?_); focus exact xaC) | ((with_reducible refine xwC ?_ ?_); focus exact xaC) | ((with_reducible refine xwD ?_ ?_); focus exact xaC) | ((with_reducible refine xwE ?_ ?_); focus exact xaC) | (with_reducible intro hc; (try simp only [capsP, and_true] at hc); (try exact xfC)) | ((fail_if_success (with_reducible first | refine xgon ?_ | intro _)); (conv => whnf); (fail_if_success (fail_if_success (with_reducible first | refine xstp ?_ | refine Both.mk ?_ ?_ | refine xgon ?_ | intro _)))))
  · obtain ⟨rfl, h2⟩ := her (by omega)
    obtain rfl : r2 = 0 := by omega
    refine xcal (σ := []) (nl := []) (cfailed s a e r3) ?_
    rintro v h' ⟨rfl, rfl⟩ hcaps
    refine xret ?_
    repeat' (first | (fail_if_success (with_reducible refine xstp ?_)); first | ((with_reducible refine And.intro (fun (hb : _ = true) => ?_) (fun (hb : _ = false) => ?_)) <;> replace hb := xnC hb <;> (try first | exact xfC | exact bff hb (by assumption) | exact bff (by assumption) hb)) | (with_reducible refine Both.mk ?_ ?_) | ((with_reducible refine And.intro ?_ ?_); focus exact xoC) | ((with_reducible refine Or.inl ⟨?_, ?_, ?_⟩); (focus rfl); focus exact xaC) | ((with_reducible refine xwB ?_ ?_); focus exact xaC) | ((with_reducible refine xwC ?_ ?_); focus exact xaC) | ((with_reducible refine xwD ?_ ?_); focus exact xaC) | ((with_reducible refine xwE ?_ ?_); focus exact xaC) | (with_reducible intro hc; (try simp only [capsP, and_true] at hc); (try exact xfC)) | ((fail_if_success (with_reducible first | refine xgon ?_ | intro _)); (conv => whnf); (fail_if_success (fail_if_success (with_reducible first | refine xstp ?_ | refine Both.mk ?_ ?_ | refine xgon ?_ | intro _)))))
    refine FinK.mk ⟨[], _, _, ⟨rfl, rfl⟩, ?_⟩; (repeat' first | refine And.intro ?_ ?_ | exact xeC | fail)
  · refine FinK.mk ⟨[], _, _, ⟨rfl, rfl⟩, ?_⟩; (repeat' first | refine And.intro ?_ ?_ | exact xeC | fail)
    all_goals (simp only; omega)
set_option maxRecDepth 10000 in
theorem cRSmall (s : ByteArray) (a e : Nat) (m : Int) (ha : a ≤ s.size) (hs : s.size ≤ 140737488355328) (hm : m ≤ 9223372036854775807) :
    Ctr Try.prog 83 [.a (rv s a e), .c (.i .i64 m)] []
      fun v h => v = .t [.a (rv s (rdS s a e m).2.1 (rdS s a e m).2.2), .c (.i .i64 ((rdS s a e m).1 : Nat))] ∧ h = [] := by
  refine Ctr.mk' tbv mixed Try.func83 rfl rfl rfl (fun _ _ => by kernel_rfl) (by kernel_rfl) (by rfl) (by rfl) (by (repeat' first | refine And.intro ?_ ?_ | exact xeC | fail)) ?_
  repeat' (first | (fail_if_success (with_reducible refine xstp ?_)); first | ((with_reducible refine And.intro (fun (hb : _ = true) => ?_) (fun (hb : _ = false) => ?_)) <;> replace hb := xnC hb <;> (try first | exact xfC | exact bff hb (by assumption) | exact bff (by assumption) hb)) | (with_reducible refine Both.mk ?_ ?_) | ((with_reducible refine And.intro ?_ ?_); focus exact xoC) | ((with_reducible refine Or.inl ⟨?_, ?_, ?_⟩); (focus rfl); focus exact xaC) | ((with_reducible refine xwB ?_ ?_); focus exact xaC) | ((with_reducible refine xwC ?_ ?_); focus exact xaC) | ((with_reducible refine xwD ?_ ?_); focus exact xaC) | ((with_reducible refine xwE ?_ ?_); focus exact xaC) | (with_reducible intro hc; (try simp only [capsP, and_true] at hc); (try exact xfC)) | ((fail_if_success (with_reducible first | refine xgon ?_ | intro _)); (conv => whnf); (fail_if_success (fail_if_success (with_reducible first | refine xstp ?_ | refine Both.mk ?_ ?_ | refine xgon ?_ | intro _)))))
  refine xcal (σ := []) (nl := []) (cRUint s a e ha hs) ?_
  rintro v h' ⟨rfl, rfl⟩ hcaps
  have hlt := rdU_lt s a e
  have her := rdU_err s a e
  have h0 := rdS_U s a e m
  refine xret ?_
  repeat' (first | (fail_if_success (with_reducible refine xstp ?_)); first | ((with_reducible refine And.intro (fun (hb : _ = true) => ?_) (fun (hb : _ = false) => ?_)) <;> replace hb := xnC hb <;> (try first | exact xfC | exact bff hb (by assumption) | exact bff (by assumption) hb)) | (with_reducible refine Both.mk ?_ ?_) | ((with_reducible refine And.intro ?_ ?_); focus exact xoC) | ((with_reducible refine Or.inl ⟨?_, ?_, ?_⟩); (focus rfl); focus exact xaC) | ((with_reducible refine xwB ?_ ?_); focus exact xaC) | ((with_reducible refine xwC ?_ ?_); focus exact xaC) | ((with_reducible refine xwD ?_ ?_); focus exact xaC) | ((with_reducible refine xwE ?_ ?_); focus exact xaC) | (with_reducible intro hc; (try simp only [capsP, and_true] at hc); (try exact xfC)) | ((fail_if_success (with_reducible first | refine xgon ?_ | intro _)); (conv => whnf); (fail_if_success (fail_if_success (with_reducible first | refine xstp ?_ | refine Both.mk ?_ ?_ | refine xgon ?_ | intro _)))))
  · rw [h0, if_neg (by omega), (her (by omega)).2]
    refine FinK.mk ⟨[], _, _, ⟨rfl, rfl⟩, ?_⟩; (repeat' first | refine And.intro ?_ ?_ | exact xeC | fail)
  · rw [h0, if_pos (by omega), if_pos (by omega)]
    refine xcal (σ := []) (nl := []) (cfailed s a e 4) ?_
    rintro v h' ⟨rfl, rfl⟩ hcaps
    refine xret ?_
    repeat' (first | (fail_if_success (with_reducible refine xstp ?_)); first | ((with_reducible refine And.intro (fun (hb : _ = true) => ?_) (fun (hb : _ = false) => ?_)) <;> replace hb := xnC hb <;> (try first | exact xfC | exact bff hb (by assumption) | exact bff (by assumption) hb)) | (with_reducible refine Both.mk ?_ ?_) | ((with_reducible refine And.intro ?_ ?_); focus exact xoC) | ((with_reducible refine Or.inl ⟨?_, ?_, ?_⟩); (focus rfl); focus exact xaC) | ((with_reducible refine xwB ?_ ?_); focus exact xaC) | ((with_reducible refine xwC ?_ ?_); focus exact xaC) | ((with_reducible refine xwD ?_ ?_); focus exact xaC) | ((with_reducible refine xwE ?_ ?_); focus exact xaC) | (with_reducible intro hc; (try simp only [capsP, and_true] at hc); (try exact xfC)) | ((fail_if_success (with_reducible first | refine xgon ?_ | intro _)); (conv => whnf); (fail_if_success (fail_if_success (with_reducible first | refine xstp ?_ | refine Both.mk ?_ ?_ | refine xgon ?_ | intro _)))))
    refine FinK.mk ⟨[], _, _, ⟨rfl, rfl⟩, ?_⟩; (repeat' first | refine And.intro ?_ ?_ | exact xeC | fail)
  · rw [IntKind.wrap_u64] at hb
    rw [h0, if_pos (by omega), if_pos (by omega)]
    refine xcal (σ := []) (nl := []) (cfailed s a e 4) ?_
    rintro v h' ⟨rfl, rfl⟩ hcaps
    refine xret ?_
    repeat' (first | (fail_if_success (with_reducible refine xstp ?_)); first | ((with_reducible refine And.intro (fun (hb : _ = true) => ?_) (fun (hb : _ = false) => ?_)) <;> replace hb := xnC hb <;> (try first | exact xfC | exact bff hb (by assumption) | exact bff (by assumption) hb)) | (with_reducible refine Both.mk ?_ ?_) | ((with_reducible refine And.intro ?_ ?_); focus exact xoC) | ((with_reducible refine Or.inl ⟨?_, ?_, ?_⟩); (focus rfl); focus exact xaC) | ((with_reducible refine xwB ?_ ?_); focus exact xaC) | ((with_reducible refine xwC ?_ ?_); focus exact xaC) | ((with_reducible refine xwD ?_ ?_); focus exact xaC) | ((with_reducible refine xwE ?_ ?_); focus exact xaC) | (with_reducible intro hc; (try simp only [capsP, and_true] at hc); (try exact xfC)) | ((fail_if_success (with_reducible first | refine xgon ?_ | intro _)); (conv => whnf); (fail_if_success (fail_if_success (with_reducible first | refine xstp ?_ | refine Both.mk ?_ ?_ | refine xgon ?_ | intro _)))))
    refine FinK.mk ⟨[], _, _, ⟨rfl, rfl⟩, ?_⟩; (repeat' first | refine And.intro ?_ ?_ | exact xeC | fail)
  · rw [IntKind.wrap_u64] at hb
    rw [h0, if_pos (by omega), if_neg (by omega)]
    refine FinK.mk ⟨[], _, _, ⟨rfl, rfl⟩, ?_⟩; (repeat' first | refine And.intro ?_ ?_ | exact xeC | fail)
    all_goals first | (rw [IntKind.wrap_i64]; omega) | omega
set_option maxRecDepth 10000 in
theorem cRText (s : ByteArray) (a e : Nat) (m : Int) (ha : a ≤ s.size) (hs : s.size ≤ 140737488355328) (hm : m ≤ 9223372036854775807) :
    Ctr Try.prog 64 [.a (rv s a e), .c (.i .i64 m)] []
      fun v h => v = .t [.a (rv s (rdT s a e m).2.1 (rdT s a e m).2.2), .c (.s (mkS (rdT s a e m).1))] ∧ h = [] := by
  refine Ctr.mk' tbv mixed Try.func64 rfl rfl rfl (fun _ _ => by kernel_rfl) (by kernel_rfl) (by rfl) (by rfl) (by (repeat' first | refine And.intro ?_ ?_ | exact xeC | fail)) ?_
  repeat' (first | (fail_if_success (with_reducible refine xstp ?_)); first | ((with_reducible refine And.intro (fun (hb : _ = true) => ?_) (fun (hb : _ = false) => ?_)) <;> replace hb := xnC hb <;> (try first | exact xfC | exact bff hb (by assumption) | exact bff (by assumption) hb)) | (with_reducible refine Both.mk ?_ ?_) | ((with_reducible refine And.intro ?_ ?_); focus exact xoC) | ((with_reducible refine Or.inl ⟨?_, ?_, ?_⟩); (focus rfl); focus exact xaC) | ((with_reducible refine xwB ?_ ?_); focus exact xaC) | ((with_reducible refine xwC ?_ ?_); focus exact xaC) | ((with_reducible refine xwD ?_ ?_); focus exact xaC) | ((with_reducible refine xwE ?_ ?_); focus exact xaC) | (with_reducible intro hc; (try simp only [capsP, and_true] at hc); (try exact xfC)) | ((fail_if_success (with_reducible first | refine xgon ?_ | intro _)); (conv => whnf); (fail_if_success (fail_if_success (with_reducible first | refine xstp ?_ | refine Both.mk ?_ ?_ | refine xgon ?_ | intro _)))))
  refine xcal (σ := []) (nl := []) (cRUint s a e ha hs) ?_
  rintro v h' ⟨rfl, rfl⟩ hcaps
  have hlt := rdU_lt s a e
  have her := rdU_err s a e
  have h0 := rdT_U s a e m
  have hle := rdU_le (e := e) ha
  refine xret ?_
  repeat' (first | (fail_if_success (with_reducible refine xstp ?_)); first | ((with_reducible refine And.intro (fun (hb : _ = true) => ?_) (fun (hb : _ = false) => ?_)) <;> replace hb := xnC hb <;> (try first | exact xfC | exact bff hb (by assumption) | exact bff (by assumption) hb)) | (with_reducible refine Both.mk ?_ ?_) | ((with_reducible refine And.intro ?_ ?_); focus exact xoC) | ((with_reducible refine Or.inl ⟨?_, ?_, ?_⟩); (focus rfl); focus exact xaC) | ((with_reducible refine xwB ?_ ?_); focus exact xaC) | ((with_reducible refine xwC ?_ ?_); focus exact xaC) | ((with_reducible refine xwD ?_ ?_); focus exact xaC) | ((with_reducible refine xwE ?_ ?_); focus exact xaC) | (with_reducible intro hc; (try simp only [capsP, and_true] at hc); (try exact xfC)) | ((fail_if_success (with_reducible first | refine xgon ?_ | intro _)); (conv => whnf); (fail_if_success (fail_if_success (with_reducible first | refine xstp ?_ | refine Both.mk ?_ ?_ | refine xgon ?_ | intro _)))))
  · rw [h0, if_neg (by omega), (her (by omega)).2]
    refine FinK.mk ⟨[], _, _, ⟨rfl, rfl⟩, ?_⟩; (repeat' first | refine And.intro ?_ ?_ | exact xeC | fail)
  · rw [h0, if_pos (by omega), if_pos (by omega)]
    refine xcal (σ := []) (nl := []) (cfailed s a e 3) ?_
    rintro v h' ⟨rfl, rfl⟩ hcaps
    refine xret ?_
    repeat' (first | (fail_if_success (with_reducible refine xstp ?_)); first | ((with_reducible refine And.intro (fun (hb : _ = true) => ?_) (fun (hb : _ = false) => ?_)) <;> replace hb := xnC hb <;> (try first | exact xfC | exact bff hb (by assumption) | exact bff (by assumption) hb)) | (with_reducible refine Both.mk ?_ ?_) | ((with_reducible refine And.intro ?_ ?_); focus exact xoC) | ((with_reducible refine Or.inl ⟨?_, ?_, ?_⟩); (focus rfl); focus exact xaC) | ((with_reducible refine xwB ?_ ?_); focus exact xaC) | ((with_reducible refine xwC ?_ ?_); focus exact xaC) | ((with_reducible refine xwD ?_ ?_); focus exact xaC) | ((with_reducible refine xwE ?_ ?_); focus exact xaC) | (with_reducible intro hc; (try simp only [capsP, and_true] at hc); (try exact xfC)) | ((fail_if_success (with_reducible first | refine xgon ?_ | intro _)); (conv => whnf); (fail_if_success (fail_if_success (with_reducible first | refine xstp ?_ | refine Both.mk ?_ ?_ | refine xgon ?_ | intro _)))))
    refine FinK.mk ⟨[], _, _, ⟨rfl, rfl⟩, ?_⟩; (repeat' first | refine And.intro ?_ ?_ | exact xeC | fail)
  · rw [IntKind.wrap_u64] at hb
    rw [h0, if_pos (by omega), if_pos (by omega)]
    refine xcal (σ := []) (nl := []) (cfailed s a e 3) ?_
    rintro v h' ⟨rfl, rfl⟩ hcaps
    refine xret ?_
    repeat' (first | (fail_if_success (with_reducible refine xstp ?_)); first | ((with_reducible refine And.intro (fun (hb : _ = true) => ?_) (fun (hb : _ = false) => ?_)) <;> replace hb := xnC hb <;> (try first | exact xfC | exact bff hb (by assumption) | exact bff (by assumption) hb)) | (with_reducible refine Both.mk ?_ ?_) | ((with_reducible refine And.intro ?_ ?_); focus exact xoC) | ((with_reducible refine Or.inl ⟨?_, ?_, ?_⟩); (focus rfl); focus exact xaC) | ((with_reducible refine xwB ?_ ?_); focus exact xaC) | ((with_reducible refine xwC ?_ ?_); focus exact xaC) | ((with_reducible refine xwD ?_ ?_); focus exact xaC) | ((with_reducible refine xwE ?_ ?_); focus exact xaC) | (with_reducible intro hc; (try simp only [capsP, and_true] at hc); (try exact xfC)) | ((fail_if_success (with_reducible first | refine xgon ?_ | intro _)); (conv => whnf); (fail_if_success (fail_if_success (with_reducible first | refine xstp ?_ | refine Both.mk ?_ ?_ | refine xgon ?_ | intro _)))))
    refine FinK.mk ⟨[], _, _, ⟨rfl, rfl⟩, ?_⟩; (repeat' first | refine And.intro ?_ ?_ | exact xeC | fail)
  · rename_i h1 h2 h3
    rw [IntKind.wrap_u64] at hb h3
    rw [h0, if_pos (by omega), if_neg (by omega), if_pos (by omega)]
    refine xcal (σ := []) (nl := []) (cfailed s a e 1) ?_
    rintro v h' ⟨rfl, rfl⟩ hcaps
    refine xret ?_
    repeat' (first | (fail_if_success (with_reducible refine xstp ?_)); first | ((with_reducible refine And.intro (fun (hb : _ = true) => ?_) (fun (hb : _ = false) => ?_)) <;> replace hb := xnC hb <;> (try first | exact xfC | exact bff hb (by assumption) | exact bff (by assumption) hb)) | (with_reducible refine Both.mk ?_ ?_) | ((with_reducible refine And.intro ?_ ?_); focus exact xoC) | ((with_reducible refine Or.inl ⟨?_, ?_, ?_⟩); (focus rfl); focus exact xaC) | ((with_reducible refine xwB ?_ ?_); focus exact xaC) | ((with_reducible refine xwC ?_ ?_); focus exact xaC) | ((with_reducible refine xwD ?_ ?_); focus exact xaC) | ((with_reducible refine xwE ?_ ?_); focus exact xaC) | (with_reducible intro hc; (try simp only [capsP, and_true] at hc); (try exact xfC)) | ((fail_if_success (with_reducible first | refine xgon ?_ | intro _)); (conv => whnf); (fail_if_success (fail_if_success (with_reducible first | refine xstp ?_ | refine Both.mk ?_ ?_ | refine xgon ?_ | intro _)))))
    refine FinK.mk ⟨[], _, _, ⟨rfl, rfl⟩, ?_⟩; (repeat' first | refine And.intro ?_ ?_ | exact xeC | fail)
  · rename_i h1 h2 h3
    rw [IntKind.wrap_u64] at hb h3
    have hw : IntKind.i64.wrap ((rdU s a e).1 : Nat) = ((rdU s a e).1 : Nat) := by rw [IntKind.wrap_i64]; omega
    rw [hw]
    rw [h0, if_pos (by omega), if_neg (by omega), if_neg (by omega)]
    repeat' (first | (fail_if_success (with_reducible refine xstp ?_)); first | ((with_reducible refine And.intro (fun (hb : _ = true) => ?_) (fun (hb : _ = false) => ?_)) <;> replace hb := xnC hb <;> (try first | exact xfC | exact bff hb (by assumption) | exact bff (by assumption) hb)) | (with_reducible refine Both.mk ?_ ?_) | ((with_reducible refine And.intro ?_ ?_); focus exact xoC) | ((with_reducible refine Or.inl ⟨?_, ?_, ?_⟩); (focus rfl); focus exact xaC) | ((with_reducible refine xwB ?_ ?_); focus exact xaC) | ((with_reducible refine xwC ?_ ?_); focus exact xaC) | ((with_reducible refine xwD ?_ ?_); focus exact xaC) | ((with_reducible refine xwE ?_ ?_); focus exact xaC) | (with_reducible intro hc; (try simp only [capsP, and_true] at hc); (try exact xfC)) | ((fail_if_success (with_reducible first | refine xgon ?_ | intro _)); (conv => whnf); (fail_if_success (fail_if_success (with_reducible first | refine xstp ?_ | refine Both.mk ?_ ?_ | refine xgon ?_ | intro _)))))
    refine FinK.mk ⟨[], _, _, ⟨rfl, rfl⟩, ?_⟩; (repeat' first | refine And.intro ?_ ?_ | exact xeC | fail)
    all_goals first | rfl | (rw [at_nat, Int.toNat_natCast, ext_take]; done) | (simp only; omega)
set_option maxRecDepth 10000 in
theorem cREnd (s : ByteArray) (a e : Nat) :
    Ctr Try.prog 82 [.a (rv s a e)] [] fun v h => v = .c (.i .i64 (endV s a e : Nat)) ∧ h = [] := by
  refine Ctr.mk' tbv mixed Try.func82 rfl rfl rfl (fun _ _ => by kernel_rfl) (by kernel_rfl) (by rfl) (by rfl) (by (repeat' first | refine And.intro ?_ ?_ | exact xeC | fail)) ?_
  repeat' (first | (fail_if_success (with_reducible refine xstp ?_)); first | ((with_reducible refine And.intro (fun (hb : _ = true) => ?_) (fun (hb : _ = false) => ?_)) <;> replace hb := xnC hb <;> (try first | exact xfC | exact bff hb (by assumption) | exact bff (by assumption) hb)) | (with_reducible refine Both.mk ?_ ?_) | ((with_reducible refine And.intro ?_ ?_); focus exact xoC) | ((with_reducible refine Or.inl ⟨?_, ?_, ?_⟩); (focus rfl); focus exact xaC) | ((with_reducible refine xwB ?_ ?_); focus exact xaC) | ((with_reducible refine xwC ?_ ?_); focus exact xaC) | ((with_reducible refine xwD ?_ ?_); focus exact xaC) | ((with_reducible refine xwE ?_ ?_); focus exact xaC) | (with_reducible intro hc; (try simp only [capsP, and_true] at hc); (try exact xfC)) | ((fail_if_success (with_reducible first | refine xgon ?_ | intro _)); (conv => whnf); (fail_if_success (fail_if_success (with_reducible first | refine xstp ?_ | refine Both.mk ?_ ?_ | refine xgon ?_ | intro _)))))
  · rw [show endV s a e = 3 by unfold endV; rw [if_pos (by omega), if_pos (by omega)]]
    refine FinK.mk ⟨[], _, _, ⟨rfl, rfl⟩, ?_⟩; (repeat' first | refine And.intro ?_ ?_ | exact xeC | fail)
  · rw [show endV s a e = e by unfold endV; rw [if_pos (by omega), if_neg (by omega)]; omega]
    refine FinK.mk ⟨[], _, _, ⟨rfl, rfl⟩, ?_⟩; (repeat' first | refine And.intro ?_ ?_ | exact xeC | fail)
  · rw [show endV s a e = e by unfold endV; rw [if_neg (by omega)]]
    refine FinK.mk ⟨[], _, _, ⟨rfl, rfl⟩, ?_⟩; (repeat' first | refine And.intro ?_ ?_ | exact xeC | fail)
end Go.Proofs.Ytkjkbpnhocjenaa
namespace Go.Proofs.Ytkjkbpnhocjenaa
namespace P5
def stp (x : Nat) : Nat := if x % 2 = 1 then (x / 2) ^^^ 2197175160 else x / 2
def stps : Nat → Nat → Nat
  | 0, x => x
  | n + 1, x => stps n (stp x)
def crcB (x : Nat) (b : UInt8) : Nat := stps 8 (x ^^^ b.toNat)
def crcF (l : List UInt8) (x : Nat) : Nat := l.foldl crcB x
def crc (l : List UInt8) : Nat := crcF l 4294967295 ^^^ 4294967295
theorem stp_lt {x : Nat} (h : x < 4294967296) : stp x < 4294967296 := by
  unfold stp; split
  · exact Nat.xor_lt_two_pow (n := 32) (by omega) (by omega)
  · omega
theorem stps_lt (n : Nat) : ∀ {x : Nat}, x < 4294967296 → stps n x < 4294967296 := by
  induction n with
  | zero => intro x h; exact h
  | succ n ih => intro x h; exact ih (stp_lt h)
theorem stps_succ (n : Nat) : ∀ x, stps (n + 1) x = stp (stps n x) := by
  induction n with
  | zero => intro x; rfl
  | succ n ih => intro x; show stps (n + 1) (stp x) = _; rw [ih]; rfl
theorem xorb_lt {x : Nat} (h : x < 4294967296) (b : UInt8) : x ^^^ b.toNat < 4294967296 :=
  Nat.xor_lt_two_pow (n := 32) (by omega) (by have := b.toNat_lt; omega)
theorem crcB_lt {x : Nat} (h : x < 4294967296) (b : UInt8) : crcB x b < 4294967296 := stps_lt 8 (xorb_lt h b)
theorem crcF_lt (l : List UInt8) : ∀ {x : Nat}, x < 4294967296 → crcF l x < 4294967296 := by
  induction l with
  | nil => intro x h; exact h
  | cons b l ih => intro x h; exact ih (crcB_lt h b)
theorem crcF_append (l m : List UInt8) (x : Nat) : crcF (l ++ m) x = crcF m (crcF l x) := List.foldl_append ..
theorem crcF_snoc (l : List UInt8) (b : UInt8) (x : Nat) : crcF (l ++ [b]) x = crcB (crcF l x) b := by rw [crcF_append]; rfl
theorem crc_lt (l : List UInt8) : crc l < 4294967296 :=
  Nat.xor_lt_two_pow (n := 32) (crcF_lt l (by decide)) (by decide)
def fnvB (x : Nat) (b : UInt8) : Nat := ((x ^^^ b.toNat) * 1099511628211) % 18446744073709551616
def fnvF (l : List UInt8) (x : Nat) : Nat := l.foldl fnvB x
def fnv0 : Nat := 14695981039346656037
def fnv (l : List UInt8) : Nat := fnvF l fnv0
theorem take_snoc (s : ByteArray) (k : Nat) (h : k < s.size) : s.data.toList.take (k + 1) = s.data.toList.take k ++ [s[k]] := by
  rw [List.take_succ_eq_append_getElem (by simpa using h)]; rfl
theorem take_all (s : ByteArray) (k : Nat) (h : s.size ≤ k) : s.data.toList.take k = s.data.toList :=
  List.take_of_length_le (by simpa using h)
theorem and1 (y : Nat) (h : y < 4294967296) : bits .and .u32 (y : Int) 1 = ((y % 2 : Nat) : Int) := by
  have := u32_and_nat y 1 h (by decide)
  simpa [nat_mask1] using this
theorem xorc (y c : Nat) (h : y < 4294967296) (hc : c < 4294967296) : bits .xor .u32 (y : Int) (c : Int) = ((y ^^^ c : Nat) : Int) := u32_xor_nat y c h hc
def le : Nat → Nat → List UInt8
  | 0, _ => []
  | k + 1, n => UInt8.ofNat (n % 256) :: le k (n / 256)
theorem le_length (k : Nat) : ∀ n, (le k n).length = k := by
  induction k with
  | zero => intro n; rfl
  | succ k ih => intro n; simp [le, ih]
theorem le_snoc (k : Nat) : ∀ n, le (k + 1) n = le k n ++ [UInt8.ofNat (n / 256 ^ k % 256)] := by
  induction k with
  | zero => intro n; simp [le]
  | succ k ih =>
    intro n
    rw [show le (k + 2) n = UInt8.ofNat (n % 256) :: le (k + 1) (n / 256) from rfl, ih, Nat.div_div_eq_div_mul, ← Nat.pow_succ']
    rfl
theorem byte_mod (n : Nat) : ((UInt8.ofNat (n % 256)).toNat : Int) = (n : Int) % 256 := by
  rw [UInt8.toNat_ofNat']; omega
theorem div_pow (n j : Nat) : n / 256 ^ (j + 1) = n / 256 ^ j / 256 := by rw [Nat.pow_succ, Nat.div_div_eq_div_mul]
def sealL (l : List UInt8) : List UInt8 := le 4 (crc l) ++ l
def linkL (x : Nat) (l : List UInt8) : List UInt8 := le 8 x ++ (le 8 l.length ++ l)
def chain (x : Nat) (l : List UInt8) : Nat := fnv (linkL x l)
theorem crc_fin (l : List UInt8) : bits .xor .u32 IntKind.u32.max ((crcF l 4294967295 : Nat) : Int) = ((crc l : Nat) : Int) := by
  rw [show IntKind.u32.max = ((4294967295 : Nat) : Int) from by decide, xorc _ _ (by decide) (crcF_lt l (by decide)), Nat.xor_comm]; rfl
theorem crc_fin' (l : List UInt8) : bits .xor .u32 ((crcF l 4294967295 : Nat) : Int) 4294967295 = ((crc l : Nat) : Int) := by
  rw [show (4294967295 : Int) = ((4294967295 : Nat) : Int) from rfl, xorc _ _ (crcF_lt l (by decide)) (by decide)]; rfl
end P5
end Go.Proofs.Ytkjkbpnhocjenaa
namespace Go.Proofs.Ytkjkbpnhocjenaa
open Go.X Go.RowKit
set_option linter.unusedSimpArgs false
set_option linter.unusedVariables false
open P5
namespace P5
theorem take_snocB (s : ByteArray) {k : Nat} (h : k < s.size) : s.data.toList.take (k + 1) = s.data.toList.take k ++ [s.get! k] := by
  rw [take_snoc s k h]
  simp [ByteArray.get!, getElem!_pos, h, ByteArray.getElem_eq_getElem_data]
theorem crcT {s : ByteArray} {k : Nat} (h : k < s.size) : crcF (s.data.toList.take (k + 1)) 4294967295 = stps 8 (crcF (s.data.toList.take k) 4294967295 ^^^ (s.get! k).toNat) := by
  rw [take_snocB s h, crcF_snoc]; rfl
theorem xorX (y c : Nat) (h : y < 4294967296) (hc : c < 4294967296) : IntKind.u32.wrap ((BitVec.ofInt IntKind.u32.bits (y : Int) ^^^ BitVec.ofInt IntKind.u32.bits (c : Int)).toNat : Nat) = ((y ^^^ c : Nat) : Int) := xorc y c h hc
theorem andX1 (y : Nat) (h : y < 4294967296) : IntKind.u32.wrap ((BitVec.ofInt IntKind.u32.bits (y : Int) &&& BitVec.ofInt IntKind.u32.bits 1).toNat : Nat) = ((y % 2 : Nat) : Int) := and1 y h
theorem shr1 (y : Nat) : (y : Int).fdiv (2 ^ min (Int.toNat 1) IntKind.u32.bits) = ((y / 2 : Nat) : Int) := by
  rw [show (2 : Int) ^ min (Int.toNat 1) IntKind.u32.bits = 2 from rfl, Int.fdiv_eq_ediv_of_nonneg _ (by omega)]
  omega
theorem u32b (b : UInt8) : IntKind.u32.wrap (b.toNat : Int) = (b.toNat : Int) := by
  have := b.toNat_lt
  rw [IntKind.wrap_u32]; omega
end P5
set_option maxRecDepth 10000 in
theorem ccrc (s : ByteArray) (hs : s.size ≤ 140737488355328) :
    Ctr Try.prog 96 [.c (.s s)] [] fun v h => v = .c (.i .u32 (crc s.data.toList : Nat)) ∧ h = [] := by
  refine Ctr.mk' tbv mixed Try.func96 rfl rfl rfl (fun _ _ => by kernel_rfl) (by kernel_rfl) (by rfl) (by rfl) (by (repeat' first | refine And.intro ?_ ?_ | exact xeC | fail)) ?_
  repeat' (first | (fail_if_success (with_reducible refine xstp ?_)); first | ((with_reducible refine And.intro (fun (hb : _ = true) => ?_) (fun (hb : _ = false) => ?_)) <;> replace hb := xnC hb <;> (try first | exact xfC | exact bff hb (by assumption) | exact bff (by assumption) hb)) | (with_reducible refine Both.mk ?_ ?_) | ((with_reducible refine And.intro ?_ ?_); focus exact xoC) | ((with_reducible refine Or.inl ⟨?_, ?_, ?_⟩); (focus rfl); focus exact xaC) | ((with_reducible refine xwB ?_ ?_); focus exact xaC) | ((with_reducible refine xwC ?_ ?_); focus exact xaC) | ((with_reducible refine xwD ?_ ?_); focus exact xaC) | ((with_reducible refine xwE ?_ ?_); focus exact xaC) | (with_reducible intro hc; (try simp only [capsP, and_true] at hc); (try exact xfC)) | ((fail_if_success (with_reducible first | refine xgon ?_ | intro _)); (conv => whnf); (fail_if_success (fail_if_success (with_reducible first | refine xstp ?_ | refine Both.mk ?_ ?_ | refine xgon ?_ | intro _)))))
  refine LoopK.mk' {k : Nat // k ≤ s.size}
    (fun ⟨k, _⟩ => ⟨[(0, .c (.s s)), (3, .c (.i .u32 (crcF (s.data.toList.take k) 4294967295 : Nat))), (7, .c (.i .i64 (s.size : Nat))), (8, .c (.i .i64 (k : Nat)))], []⟩) (fun k => s.size - k.1)
    ⟨⟨0, Nat.zero_le _⟩, [], ?_⟩ ?_
  · (repeat' first | refine And.intro ?_ ?_ | exact xeC | fail)
  rintro ⟨k, hk⟩
  have hx := crcF_lt (s.data.toList.take k) (x := 4294967295) (by decide)
  have hT := @crcT s k
  repeat' (first | (fail_if_success (with_reducible refine xstp ?_)); first | ((with_reducible refine And.intro (fun (hb : _ = true) => ?_) (fun (hb : _ = false) => ?_)) <;> replace hb := xnC hb <;> (try first | exact xfC | exact bff hb (by assumption) | exact bff (by assumption) hb)) | (with_reducible refine Both.mk ?_ ?_) | ((with_reducible refine And.intro ?_ ?_); focus exact xoC) | ((with_reducible refine Or.inl ⟨?_, ?_, ?_⟩); (focus rfl); focus exact xaC) | ((with_reducible refine xwB ?_ ?_); focus exact xaC) | ((with_reducible refine xwC ?_ ?_); focus exact xaC) | ((with_reducible refine xwD ?_ ?_); focus exact xaC) | ((with_reducible refine xwE ?_ ?_); focus exact xaC) | (with_reducible intro hc; (try simp only [capsP, and_true] at hc); (try exact xfC)) | ((fail_if_success (with_reducible first | refine xgon ?_ | intro _)); (conv => whnf); (fail_if_success (fail_if_success (with_reducible first | refine xstp ?_ | refine Both.mk ?_ ?_ | refine xgon ?_ | intro _)))))
  · have hx1 := xorb_lt hx (s.get! k)
    have hT := hT (by omega)
    refine LoopK.mk' {j : Nat // j ≤ 8}
      (fun ⟨j, _⟩ => ⟨[(0, .c (.s s)), (3, .c (.i .u32 (stps j (crcF (s.data.toList.take k) 4294967295 ^^^ (s.get! k).toNat) : Nat))), (7, .c (.i .i64 (s.size : Nat))), (8, .c (.i .i64 (k : Nat))), (17, .c (.i .i64 (j : Nat)))], []⟩) (fun j => 8 - j.1)
      ⟨⟨0, Nat.zero_le _⟩, [], ?_⟩ ?_
    · (repeat' first | refine And.intro ?_ ?_ | exact xeC | fail)
      rw [Int.toNat_natCast, u32b, xorX _ _ hx (by have := (s.get! k).toNat_lt; omega)]
      rfl
    rintro ⟨j, hj⟩
    have hy := stps_lt j hx1
    have hS := stps_succ j (crcF (s.data.toList.take k) 4294967295 ^^^ (s.get! k).toNat)
    have hE : j = 8 → stps j (crcF (s.data.toList.take k) 4294967295 ^^^ (s.get! k).toNat) = crcF (s.data.toList.take (k + 1)) 4294967295 := fun h => by subst h; exact hT.symm
    repeat' (first | (fail_if_success (with_reducible refine xstp ?_)); first | ((with_reducible refine And.intro (fun (hb : _ = true) => ?_) (fun (hb : _ = false) => ?_)) <;> replace hb := xnC hb <;> (try first | exact xfC | exact bff hb (by assumption) | exact bff (by assumption) hb)) | (with_reducible refine Both.mk ?_ ?_) | ((with_reducible refine And.intro ?_ ?_); focus exact xoC) | ((with_reducible refine Or.inl ⟨?_, ?_, ?_⟩); (focus rfl); focus exact xaC) | ((with_reducible refine xwB ?_ ?_); focus exact xaC) | ((with_reducible refine xwC ?_ ?_); focus exact xaC) | ((with_reducible refine xwD ?_ ?_); focus exact xaC) | ((with_reducible refine xwE ?_ ?_); focus exact xaC) | (with_reducible intro hc; (try simp only [capsP, and_true] at hc); (try exact xfC)) | ((fail_if_success (with_reducible first | refine xgon ?_ | intro _)); (conv => whnf); (fail_if_success (fail_if_success (with_reducible first | refine xstp ?_ | refine Both.mk ?_ ?_ | refine xgon ?_ | intro _)))))
    · rw [andX1 _ hy] at hb
      refine ⟨⟨j + 1, by omega⟩, [], by simp only; omega, ?_⟩
      (repeat' first | refine And.intro ?_ ?_ | exact xeC | fail)
      rw [shr1, show (2197175160 : Int) = ((2197175160 : Nat) : Int) from rfl, xorX _ _ (by omega) (by omega), hS, stp, if_pos (by omega)]
    · rw [andX1 _ hy] at hb
      refine ⟨⟨j + 1, by omega⟩, [], by simp only; omega, ?_⟩
      (repeat' first | refine And.intro ?_ ?_ | exact xeC | fail)
      rw [shr1, hS, stp, if_neg (by omega)]
    · refine ⟨⟨k + 1, by omega⟩, [], by simp only; omega, ?_⟩
      (repeat' first | refine And.intro ?_ ?_ | exact xeC | fail)
      exact congrArg _ (hE (by omega))
  · refine FinK.mk ⟨[], _, _, ⟨rfl, rfl⟩, ?_⟩; (repeat' first | refine And.intro ?_ ?_ | exact xeC | fail)
    rw [take_all s k (by omega)]
    exact crc_fin _
set_option maxRecDepth 10000 in
theorem ccrcR (s : ByteArray) (hs : s.size ≤ 140737488355328) :
    Ctr Try.prog 97 [.c (.s s)] [] fun v h => v = .c (.i .u32 (crc s.data.toList : Nat)) ∧ h = [] := by
  refine Ctr.mk' tbv mixed Try.func97 rfl rfl rfl (fun _ _ => by kernel_rfl) (by kernel_rfl) (by rfl) (by rfl) (by (repeat' first | refine And.intro ?_ ?_ | exact xeC | fail)) ?_
  repeat' (first | (fail_if_success (with_reducible refine xstp ?_)); first | ((with_reducible refine And.intro (fun (hb : _ = true) => ?_) (fun (hb : _ = false) => ?_)) <;> replace hb := xnC hb <;> (try first | exact xfC | exact bff hb (by assumption) | exact bff (by assumption) hb)) | (with_reducible refine Both.mk ?_ ?_) | ((with_reducible refine And.intro ?_ ?_); focus exact xoC) | ((with_reducible refine Or.inl ⟨?_, ?_, ?_⟩); (focus rfl); focus exact xaC) | ((with_reducible refine xwB ?_ ?_); focus exact xaC) | ((with_reducible refine xwC ?_ ?_); focus exact xaC) | ((with_reducible refine xwD ?_ ?_); focus exact xaC) | ((with_reducible refine xwE ?_ ?_); focus exact xaC) | (with_reducible intro hc; (try simp only [capsP, and_true] at hc); (try exact xfC)) | ((fail_if_success (with_reducible first | refine xgon ?_ | intro _)); (conv => whnf); (fail_if_success (fail_if_success (with_reducible first | refine xstp ?_ | refine Both.mk ?_ ?_ | refine xgon ?_ | intro _)))))
  refine LoopK.mk' {k : Nat // k ≤ s.size}
    (fun ⟨k, _⟩ => ⟨[(0, .c (.s s)), (3, .c (.i .u32 (crcF (s.data.toList.take k) 4294967295 : Nat))), (4, .c (.i .i64 (k : Nat)))], []⟩) (fun k => s.size - k.1)
    ⟨⟨0, Nat.zero_le _⟩, [], ?_⟩ ?_
  · (repeat' first | refine And.intro ?_ ?_ | exact xeC | fail)
  rintro ⟨k, hk⟩
  have hx := crcF_lt (s.data.toList.take k) (x := 4294967295) (by decide)
  have hT := @crcT s k
  repeat' (first | (fail_if_success (with_reducible refine xstp ?_)); first | ((with_reducible refine And.intro (fun (hb : _ = true) => ?_) (fun (hb : _ = false) => ?_)) <;> replace hb := xnC hb <;> (try first | exact xfC | exact bff hb (by assumption) | exact bff (by assumption) hb)) | (with_reducible refine Both.mk ?_ ?_) | ((with_reducible refine And.intro ?_ ?_); focus exact xoC) | ((with_reducible refine Or.inl ⟨?_, ?_, ?_⟩); (focus rfl); focus exact xaC) | ((with_reducible refine xwB ?_ ?_); focus exact xaC) | ((with_reducible refine xwC ?_ ?_); focus exact xaC) | ((with_reducible refine xwD ?_ ?_); focus exact xaC) | ((with_reducible refine xwE ?_ ?_); focus exact xaC) | (with_reducible intro hc; (try simp only [capsP, and_true] at hc); (try exact xfC)) | ((fail_if_success (with_reducible first | refine xgon ?_ | intro _)); (conv => whnf); (fail_if_success (fail_if_success (with_reducible first | refine xstp ?_ | refine Both.mk ?_ ?_ | refine xgon ?_ | intro _)))))
  · have hx1 := xorb_lt hx (s.get! k)
    have hT := hT (by omega)
    refine LoopK.mk' {j : Nat // j ≤ 8}
      (fun ⟨j, _⟩ => ⟨[(0, .c (.s s)), (3, .c (.i .u32 (stps j (crcF (s.data.toList.take k) 4294967295 ^^^ (s.get! k).toNat) : Nat))), (4, .c (.i .i64 (k : Nat))), (5, .c (.i .i64 (j : Nat)))], []⟩) (fun j => 8 - j.1)
      ⟨⟨0, Nat.zero_le _⟩, [], ?_⟩ ?_
    · (repeat' first | refine And.intro ?_ ?_ | exact xeC | fail)
      rw [Int.toNat_natCast, u32b, xorX _ _ hx (by have := (s.get! k).toNat_lt; omega)]
      rfl
    rintro ⟨j, hj⟩
    have hy := stps_lt j hx1
    have hS := stps_succ j (crcF (s.data.toList.take k) 4294967295 ^^^ (s.get! k).toNat)
    have hE : j = 8 → stps j (crcF (s.data.toList.take k) 4294967295 ^^^ (s.get! k).toNat) = crcF (s.data.toList.take (k + 1)) 4294967295 := fun h => by subst h; exact hT.symm
    have hq : ∀ y : Nat, y < 4294967296 → IntKind.u32.wrap ((y : Int).tdiv 2) = ((y / 2 : Nat) : Int) := by
      intro y hy
      rw [Int.tdiv_eq_ediv_of_nonneg (by omega), IntKind.wrap_u32]; omega
    repeat' (first | (fail_if_success (with_reducible refine xstp ?_)); first | ((with_reducible refine And.intro (fun (hb : _ = true) => ?_) (fun (hb : _ = false) => ?_)) <;> replace hb := xnC hb <;> (try first | exact xfC | exact bff hb (by assumption) | exact bff (by assumption) hb)) | (with_reducible refine Both.mk ?_ ?_) | ((with_reducible refine And.intro ?_ ?_); focus exact xoC) | ((with_reducible refine Or.inl ⟨?_, ?_, ?_⟩); (focus rfl); focus exact xaC) | ((with_reducible refine xwB ?_ ?_); focus exact xaC) | ((with_reducible refine xwC ?_ ?_); focus exact xaC) | ((with_reducible refine xwD ?_ ?_); focus exact xaC) | ((with_reducible refine xwE ?_ ?_); focus exact xaC) | (with_reducible intro hc; (try simp only [capsP, and_true] at hc); (try exact xfC)) | ((fail_if_success (with_reducible first | refine xgon ?_ | intro _)); (conv => whnf); (fail_if_success (fail_if_success (with_reducible first | refine xstp ?_ | refine Both.mk ?_ ?_ | refine xgon ?_ | intro _)))))
    · rw [Int.tmod_eq_emod_of_nonneg (by omega)] at hb
      refine ⟨⟨j + 1, by omega⟩, [], by simp only; omega, ?_⟩
      (repeat' first | refine And.intro ?_ ?_ | exact xeC | fail)
      rw [hq _ hy, show (2197175160 : Int) = ((2197175160 : Nat) : Int) from rfl, xorX _ _ (by omega) (by omega), hS, stp, if_pos (by omega)]
    · rw [Int.tmod_eq_emod_of_nonneg (by omega)] at hb
      refine ⟨⟨j + 1, by omega⟩, [], by simp only; omega, ?_⟩
      (repeat' first | refine And.intro ?_ ?_ | exact xeC | fail)
      rw [hq _ hy, hS, stp, if_neg (by omega)]
    · refine ⟨⟨k + 1, by omega⟩, [], by simp only; omega, ?_⟩
      (repeat' first | refine And.intro ?_ ?_ | exact xeC | fail)
      exact congrArg _ (hE (by omega))
  · refine FinK.mk ⟨[], _, _, ⟨rfl, rfl⟩, ?_⟩; (repeat' first | refine And.intro ?_ ?_ | exact xeC | fail)
    rw [take_all s k (by omega)]
    exact crc_fin' _
end Go.Proofs.Ytkjkbpnhocjenaa
namespace Go.Proofs.Ytkjkbpnhocjenaa
open Go.X Go.RowKit
set_option linter.unusedSimpArgs false
set_option linter.unusedVariables false
open P5
namespace P5
def ei (n k : Nat) : List UInt8 := le k n ++ List.replicate (8 - k) 0
theorem ei_len {n k : Nat} (h : k ≤ 8) : (ei n k).length = 8 := by simp [ei, le_length]; omega
theorem ei_set {n k : Nat} (h : k < 8) : (ei n k).set k (UInt8.ofNat (n / 256 ^ k % 256)) = ei n (k + 1) := by
  unfold ei
  rw [le_snoc, List.set_append_right _ _ (by rw [le_length]; exact Nat.le_refl _), le_length, Nat.sub_self, show 8 - k = (8 - (k + 1)) + 1 by omega, List.replicate_succ]
  simp
theorem w8 (x : Int) : IntKind.u8.wrap x = x % 256 := by rw [IntKind.wrap_u8]
theorem byteX (n i : Nat) (hi : i < 8) : IntKind.u8.wrap ((n : Int).fdiv (2 ^ min (Int.toNat (8 * (i : Int))) IntKind.u64.bits)) = ((UInt8.ofNat (n / 256 ^ i % 256)).toNat : Int) := by
  rw [show min (Int.toNat (8 * (i : Int))) IntKind.u64.bits = 8 * i by show min _ 64 = _; omega, Int.fdiv_eq_ediv_of_nonneg _ (Int.le_of_lt (Int.pow_pos (by decide))), w8, byte_mod]
  have e : (2 : Int) ^ (8 * i) = ((256 ^ i : Nat) : Int) := by rw [show (256 : Nat) = 2 ^ 8 from rfl, ← Nat.pow_mul]; simp
  rw [e, Int.natCast_ediv]
end P5
set_option maxRecDepth 10000 in
theorem ceight (n k : Nat) (hk : k ≤ 8) :
    Ctr Try.prog 95 [.c (.i .u64 (n : Nat)), .c (.i .i64 (k : Nat))] [] fun v h => v = .a (flatR (rowOf encB8 (ei n k)) 0 8) ∧ h = [] := by
  refine Ctr.mk' tbv mixed Try.func95 rfl rfl rfl (fun _ _ => by kernel_rfl) (by kernel_rfl) (by rfl) (by rfl) (by (repeat' first | refine And.intro ?_ ?_ | exact xeC | fail)) ?_
  repeat' (first | (fail_if_success (with_reducible refine xstp ?_)); first | ((with_reducible refine And.intro (fun (hb : _ = true) => ?_) (fun (hb : _ = false) => ?_)) <;> replace hb := xnC hb <;> (try first | exact xfC | exact bff hb (by assumption) | exact bff (by assumption) hb)) | (with_reducible refine Both.mk ?_ ?_) | ((with_reducible refine And.intro ?_ ?_); focus exact xoC) | ((with_reducible refine Or.inl ⟨?_, ?_, ?_⟩); (focus rfl); focus exact xaC) | ((with_reducible refine xwB ?_ ?_); focus exact xaC) | ((with_reducible refine xwC ?_ ?_); focus exact xaC) | ((with_reducible refine xwD ?_ ?_); focus exact xaC) | ((with_reducible refine xwE ?_ ?_); focus exact xaC) | (with_reducible intro hc; (try simp only [capsP, and_true] at hc); (try exact xfC)) | ((fail_if_success (with_reducible first | refine xgon ?_ | intro _)); (conv => whnf); (fail_if_success (fail_if_success (with_reducible first | refine xstp ?_ | refine Both.mk ?_ ?_ | refine xgon ?_ | intro _)))))
  refine LoopK.mk' {i : Nat // i ≤ k}
    (fun ⟨i, _⟩ => ⟨[(0, .c (.i .u64 (n : Nat))), (4, .c (.pe 0 0 1 0 0)), (5, .c (.pe 1 0 1 0 0)), (7, .c (.i .i64 (k : Nat))), (8, .c (.i .i64 (i : Nat)))], [.one (.row true false 151 1 8 8 (rowOf encB8 (ei 0 0))), .one (.row true false 151 1 8 8 (rowOf encB8 (ei n i)))]⟩) (fun i => k - i.1)
    ⟨⟨0, Nat.zero_le _⟩, [0, 1], ?_⟩ ?_
  · (repeat' first | refine And.intro ?_ ?_ | exact xeC | fail)
    all_goals (
      intro i hi
      rcases (by omega : i = 0 ∨ i = 1 ∨ i = 2 ∨ i = 3 ∨ i = 4 ∨ i = 5 ∨ i = 6 ∨ i = 7) with rfl | rfl | rfl | rfl | rfl | rfl | rfl | rfl <;> rfl)
  rintro ⟨i, hi⟩
  repeat' (first | (fail_if_success (with_reducible refine xstp ?_)); first | ((with_reducible refine And.intro (fun (hb : _ = true) => ?_) (fun (hb : _ = false) => ?_)) <;> replace hb := xnC hb <;> (try first | exact xfC | exact bff hb (by assumption) | exact bff (by assumption) hb)) | (with_reducible refine Both.mk ?_ ?_) | ((with_reducible refine And.intro ?_ ?_); focus exact xoC) | ((with_reducible refine Or.inl ⟨?_, ?_, ?_⟩); (focus rfl); focus exact xaC) | ((with_reducible refine xwB ?_ ?_); focus exact xaC) | ((with_reducible refine xwC ?_ ?_); focus exact xaC) | ((with_reducible refine xwD ?_ ?_); focus exact xaC) | ((with_reducible refine xwE ?_ ?_); focus exact xaC) | (with_reducible intro hc; (try simp only [capsP, and_true] at hc); (try exact xfC)) | ((fail_if_success (with_reducible first | refine xgon ?_ | intro _)); (conv => whnf); (fail_if_success (fail_if_success (with_reducible first | refine xstp ?_ | refine Both.mk ?_ ?_ | refine xgon ?_ | intro _)))))
  · refine ⟨⟨i + 1, by omega⟩, [0, 1], by simp only; omega, ?_⟩
    (repeat' first | refine And.intro ?_ ?_ | exact xeC | fail)
    intro q hq
    simp only [Int.toNat_natCast, Nat.zero_add, rowOf]
    rw [← ei_set (by omega), getD_set _ _ _ _ (by rw [ei_len (by omega)]; omega)]
    by_cases h : q = i
    · rw [if_pos h, if_pos h, encB8, byteX n i (by omega)]
    · rw [if_neg h, if_neg h]
  · obtain rfl : i = k := by omega
    refine FinK.mk ⟨[], _, _, ⟨rfl, rfl⟩, ?_⟩; (repeat' first | refine And.intro ?_ ?_ | exact xeC | fail)
namespace P5
theorem flat_row (l : List UInt8) : ∀ (m e i : Nat), i < m → chunkOf 1 (flatR (rowOf encB8 l) e m) i = encB8 (l.getD (e + i) default)
  | 0, _, _, h => by omega
  | m + 1, e, i, h => by
    unfold flatR
    cases i with
    | zero => rfl
    | succ i =>
      rw [show e + (i + 1) = e + 1 + i by omega, ← flat_row l m (e + 1) i (by omega)]
      simp [chunkOf, rowOf, encB8]
theorem flatRk (l : List UInt8) (σ : List Sg) (N : Nat) : ∀ m e, (flatR (rowOf encB8 l) e m).map (C.rk σ N) = flatR (rowOf encB8 l) e m
  | 0, _ => rfl
  | m + 1, e => by
    unfold flatR
    rw [List.map_append, flatRk l σ N m (e + 1)]
    rfl
theorem seal_row (l : List UInt8) (z : Nat → List C) (i : Nat) (hi : i < 8) : splF 0 8 z 0 (chunkOf 1 (flatR (rowOf encB8 l) 0 8)) i = encB8 (l.getD i default) := by
  unfold splF
  rw [if_neg (by omega), if_pos (by omega), flat_row l 8 0 _ (by omega)]
  congr 2
  omega
theorem ei_take {n k : Nat} : (ei n k).take k = le k n := by
  unfold ei
  rw [List.take_append_of_le_length (by rw [le_length]; exact Nat.le_refl _), List.take_of_length_le (by rw [le_length]; exact Nat.le_refl _)]
end P5
theorem rH41kC0 {σ : List Sg} {H h' : List Fam} {v : T} {K : T → List Fam → Prop} {H' : List Fam} {v' : T} {N : Nat} (hk : K v' H') (hN : H.length = N := by (try simp only [↓List.length_cons, ↓List.length_nil, Nat.reduceAdd]) <;> rfl) (h : givesF σ N H σ h' = some H' := by (try simp (maxSteps := 1000000) only [givesF, setF, updF, Fam.zeroth, Fam.rk, Ck.rk, C.rk, E.rk, T.rk, key, List.map_cons, List.map_nil, List.cons_append, List.nil_append, List.length_cons, List.length_nil, Option.map_some, Option.bind_some, Nat.reduceAdd, Nat.zero_add, Nat.add_zero, Nat.add_sub_cancel_left, Int.toNat_natCast, reps, List.all_cons, List.all_nil, C.flat, List.append_eq, Bool.not_true, Bool.and_true, Bool.or_false, Bool.or_self, Bool.not_false, List.append_nil, Bool.and_self, flatRk]) <;> rfl) (hv : v.rk σ N = v' := by (try simp only [givesF, setF, updF, Fam.zeroth, Fam.rk, Ck.rk, C.rk, E.rk, T.rk, key, List.map_cons, List.map_nil, List.cons_append, List.nil_append, List.length_cons, List.length_nil, Option.map_some, Option.bind_some, Nat.reduceAdd, Nat.zero_add, Nat.add_zero, Nat.add_sub_cancel_left, Int.toNat_natCast, reps, List.all_cons, List.all_nil, C.flat, List.append_eq, Bool.not_true, Bool.and_true, Bool.or_false, Bool.or_self, Bool.not_false, List.append_nil, Bool.and_self, flatRk]) <;> rfl) : RetG σ H h' v K := ret_mk3 hN h hv hk
set_option maxRecDepth 10000 in
theorem cSeal (s : ByteArray) (hs : s.size ≤ 140737488355320) :
    Ctr Try.prog 73 [.c (.s s)] [] fun v h => v = .c (.s (mkS (sealL s.data.toList))) ∧ h = [] := by
  refine Ctr.mk' tbv mixed Try.func73 rfl rfl rfl (fun _ _ => by kernel_rfl) (by kernel_rfl) (by rfl) (by rfl) (by (repeat' first | refine And.intro ?_ ?_ | exact xeC | fail)) ?_
  repeat' (first | (fail_if_success (with_reducible refine xstp ?_)); first | ((with_reducible refine And.intro (fun (hb : _ = true) => ?_) (fun (hb : _ = false) => ?_)) <;> replace hb := xnC hb <;> (try first | exact xfC | exact bff hb (by assumption) | exact bff (by assumption) hb)) | (with_reducible refine Both.mk ?_ ?_) | ((with_reducible refine And.intro ?_ ?_); focus exact xoC) | ((with_reducible refine Or.inl ⟨?_, ?_, ?_⟩); (focus rfl); focus exact xaC) | ((with_reducible refine xwB ?_ ?_); focus exact xaC) | ((with_reducible refine xwC ?_ ?_); focus exact xaC) | ((with_reducible refine xwD ?_ ?_); focus exact xaC) | ((with_reducible refine xwE ?_ ?_); focus exact xaC) | (with_reducible intro hc; (try simp only [capsP, and_true] at hc); (try exact xfC)) | ((fail_if_success (with_reducible first | refine xgon ?_ | intro _)); (conv => whnf); (fail_if_success (fail_if_success (with_reducible first | refine xstp ?_ | refine Both.mk ?_ ?_ | refine xgon ?_ | intro _)))))
  refine xcal (σ := []) (nl := []) (ccrc s (by omega)) ?_
  rintro v h' ⟨rfl, rfl⟩ hcaps
  refine xret ?_
  repeat' (first | (fail_if_success (with_reducible refine xstp ?_)); first | ((with_reducible refine And.intro (fun (hb : _ = true) => ?_) (fun (hb : _ = false) => ?_)) <;> replace hb := xnC hb <;> (try first | exact xfC | exact bff hb (by assumption) | exact bff (by assumption) hb)) | (with_reducible refine Both.mk ?_ ?_) | ((with_reducible refine And.intro ?_ ?_); focus exact xoC) | ((with_reducible refine Or.inl ⟨?_, ?_, ?_⟩); (focus rfl); focus exact xaC) | ((with_reducible refine xwB ?_ ?_); focus exact xaC) | ((with_reducible refine xwC ?_ ?_); focus exact xaC) | ((with_reducible refine xwD ?_ ?_); focus exact xaC) | ((with_reducible refine xwE ?_ ?_); focus exact xaC) | (with_reducible intro hc; (try simp only [capsP, and_true] at hc); (try exact xfC)) | ((fail_if_success (with_reducible first | refine xgon ?_ | intro _)); (conv => whnf); (fail_if_success (fail_if_success (with_reducible first | refine xstp ?_ | refine Both.mk ?_ ?_ | refine xgon ?_ | intro _)))))
  have hw : IntKind.u64.wrap (crc s.data.toList : Nat) = (crc s.data.toList : Nat) := by
    have := crc_lt s.data.toList
    rw [IntKind.wrap_u64]; omega
  rw [hw]
  refine xcal (σ := []) (nl := []) (ceight (crc s.data.toList) 4 (by omega)) ?_
  rintro v h' ⟨rfl, rfl⟩ hcaps
  refine rH41kC0 ?_
  repeat' (first | (fail_if_success (with_reducible refine xstp ?_)); first | ((with_reducible refine And.intro (fun (hb : _ = true) => ?_) (fun (hb : _ = false) => ?_)) <;> replace hb := xnC hb <;> (try first | exact xfC | exact bff hb (by assumption) | exact bff (by assumption) hb)) | (with_reducible refine Both.mk ?_ ?_) | ((with_reducible refine And.intro ?_ ?_); focus exact xoC) | ((with_reducible refine Or.inl ⟨?_, ?_, ?_⟩); (focus rfl); focus exact xaC) | ((with_reducible refine xwB ?_ ?_); focus exact xaC) | ((with_reducible refine xwC ?_ ?_); focus exact xaC) | ((with_reducible refine xwD ?_ ?_); focus exact xaC) | ((with_reducible refine xwE ?_ ?_); focus exact xaC) | (with_reducible intro hc; (try simp only [capsP, and_true] at hc); (try exact xfC)) | ((fail_if_success (with_reducible first | refine xgon ?_ | intro _)); (conv => whnf); (fail_if_success (fail_if_success (with_reducible first | refine xstp ?_ | refine Both.mk ?_ ?_ | refine xgon ?_ | intro _)))))
  refine ⟨⟨rfl, rfl, by decide, fun i hi => ?_⟩, ?_⟩
  · rw [seal_row _ _ _ (show 0 + i < 8 by have : i < 4 := hi; omega)]; rfl
  generalize hB : bytesOf _ _ _ = B
  obtain rfl : B = mkS (le 4 (crc s.data.toList)) := by
    rw [← hB]
    refine (bytesOf_row (ei (crc s.data.toList) 4) _ 0 4 (fun i hi => ?_) (by rw [ei_len (by omega)]; omega)).trans (by rw [List.drop_zero, ei_take])
    refine (seal_row _ _ _ (show 0 + i < 8 by omega)).trans rfl
  have h4 : (mkS (le 4 (crc s.data.toList))).size = 4 := le_length 4 _
  repeat' (first | (fail_if_success (with_reducible refine xstp ?_)); first | ((with_reducible refine And.intro (fun (hb : _ = true) => ?_) (fun (hb : _ = false) => ?_)) <;> replace hb := xnC hb <;> (try first | exact xfC | exact bff hb (by assumption) | exact bff (by assumption) hb)) | (with_reducible refine Both.mk ?_ ?_) | ((with_reducible refine And.intro ?_ ?_); focus exact xoC) | ((with_reducible refine Or.inl ⟨?_, ?_, ?_⟩); (focus rfl); focus exact xaC) | ((with_reducible refine xwB ?_ ?_); focus exact xaC) | ((with_reducible refine xwC ?_ ?_); focus exact xaC) | ((with_reducible refine xwD ?_ ?_); focus exact xaC) | ((with_reducible refine xwE ?_ ?_); focus exact xaC) | (with_reducible intro hc; (try simp only [capsP, and_true] at hc); (try exact xfC)) | ((fail_if_success (with_reducible first | refine xgon ?_ | intro _)); (conv => whnf); (fail_if_success (fail_if_success (with_reducible first | refine xstp ?_ | refine Both.mk ?_ ?_ | refine xgon ?_ | intro _)))))
  rw [← mkS_of s, mkS_append]
  refine FinK.mk ⟨[], _, _, ⟨rfl, rfl⟩, ?_⟩; (repeat' first | refine And.intro ?_ ?_ | exact xeC | fail)
set_option maxRecDepth 10000 in
theorem cBytes (n k : Nat) (hk : k ≤ 8) (hn : n < 18446744073709551616) :
    Ctr Try.prog 76 [.c (.i .u64 (n : Nat)), .c (.i .i64 (k : Nat))] [] fun v h => v = .c (.s (mkS (le k n))) ∧ h = [] := by
  refine Ctr.mk' tbv mixed Try.func76 rfl rfl rfl (fun _ _ => by kernel_rfl) (by kernel_rfl) (by rfl) (by rfl) (by (repeat' first | refine And.intro ?_ ?_ | exact xeC | fail)) ?_
  repeat' (first | (fail_if_success (with_reducible refine xstp ?_)); first | ((with_reducible refine And.intro (fun (hb : _ = true) => ?_) (fun (hb : _ = false) => ?_)) <;> replace hb := xnC hb <;> (try first | exact xfC | exact bff hb (by assumption) | exact bff (by assumption) hb)) | (with_reducible refine Both.mk ?_ ?_) | ((with_reducible refine And.intro ?_ ?_); focus exact xoC) | ((with_reducible refine Or.inl ⟨?_, ?_, ?_⟩); (focus rfl); focus exact xaC) | ((with_reducible refine xwB ?_ ?_); focus exact xaC) | ((with_reducible refine xwC ?_ ?_); focus exact xaC) | ((with_reducible refine xwD ?_ ?_); focus exact xaC) | ((with_reducible refine xwE ?_ ?_); focus exact xaC) | (with_reducible intro hc; (try simp only [capsP, and_true] at hc); (try exact xfC)) | ((fail_if_success (with_reducible first | refine xgon ?_ | intro _)); (conv => whnf); (fail_if_success (fail_if_success (with_reducible first | refine xstp ?_ | refine Both.mk ?_ ?_ | refine xgon ?_ | intro _)))))
  refine LoopK.mk' ({i : Nat // i ≤ k} × Nat)
    (fun ⟨⟨i, _⟩, c⟩ => ⟨[(0, .c (.i .u64 (n / 256 ^ i : Nat))), (1, .c (.i .i64 (k : Nat))), (5, .c (.sl 0 0 1 0 i c)), (6, .c (.i .i64 (i : Nat)))], [.one (.row true false 5 1 i c (rowOf encB8 (le i n)))]⟩) (fun i => k - i.1.1)
    ⟨⟨⟨0, Nat.zero_le _⟩, 0⟩, [9], ?_⟩ ?_
  · (repeat' first | refine And.intro ?_ ?_ | exact xeC | fail)
    simp
  rintro ⟨⟨i, hi⟩, c⟩
  have hb1 : IntKind.u8.wrap (((n / 256 ^ i : Nat) : Int).tmod 256) = ((UInt8.ofNat (n / 256 ^ i % 256)).toNat : Int) := by
    generalize n / 256 ^ i = m
    rw [Int.tmod_eq_emod_of_nonneg (by omega), w8, byte_mod]; omega
  repeat' (first | (fail_if_success (with_reducible refine xstp ?_)); first | ((with_reducible refine And.intro (fun (hb : _ = true) => ?_) (fun (hb : _ = false) => ?_)) <;> replace hb := xnC hb <;> (try first | exact xfC | exact bff hb (by assumption) | exact bff (by assumption) hb)) | (with_reducible refine Both.mk ?_ ?_) | ((with_reducible refine And.intro ?_ ?_); focus exact xoC) | ((with_reducible refine Or.inl ⟨?_, ?_, ?_⟩); (focus rfl); focus exact xaC) | ((with_reducible refine xwB ?_ ?_); focus exact xaC) | ((with_reducible refine xwC ?_ ?_); focus exact xaC) | ((with_reducible refine xwD ?_ ?_); focus exact xaC) | ((with_reducible refine xwE ?_ ?_); focus exact xaC) | (with_reducible intro hc; (try simp only [capsP, and_true] at hc); (try exact xfC)) | ((fail_if_success (with_reducible first | refine xgon ?_ | intro _)); (conv => whnf); (fail_if_success (fail_if_success (with_reducible first | refine xstp ?_ | refine Both.mk ?_ ?_ | refine xgon ?_ | intro _)))))
  · rename_i c2
    refine ⟨⟨⟨i + 1, by omega⟩, c2⟩, [2], by simp only; omega, ?_⟩
    (repeat' first | refine And.intro ?_ ?_ | exact xeC | fail)
    · intro q hq
      have e : le (i + 1) n = le i n ++ [UInt8.ofNat (n / 256 ^ i % 256)] := le_snoc i n
      have hq2 : q < (le i n ++ [UInt8.ofNat (n / 256 ^ i % 256)]).length := by rw [← e, le_length]; exact hq
      have := app_rowG encB8 (le i n) (UInt8.ofNat (n / 256 ^ i % 256)) (fun _ => [.i .u8 (IntKind.u8.wrap (((n / 256 ^ i : Nat) : Int).tmod 256))]) (by rw [hb1]; rfl) q hq2
      rw [le_length] at this
      rw [e, ← this]
      unfold appF
      by_cases h : q < i
      · rw [if_pos h, if_pos h]
      · rw [if_neg h, if_neg h]
        obtain rfl : q = i := by omega
        rw [Nat.sub_self]; rfl
    · rw [div_pow]
      have hm : n / 256 ^ i ≤ n := Nat.div_le_self _ _
      generalize n / 256 ^ i = m at hm
      rw [Int.tdiv_eq_ediv_of_nonneg (by omega), IntKind.wrap_u64]
      omega
  · obtain rfl : i = k := by omega
    refine ⟨⟨rfl, rfl, by omega, fun j hj => rfl⟩, ?_⟩
    generalize hB : bytesOf _ _ _ = B
    obtain rfl : B = mkS (le i n) := by
      rw [← hB, bytesOf_row (le i n) _ 0 i (fun j hj => by rfl) (by rw [le_length]; omega), List.drop_zero, List.take_of_length_le (by rw [le_length]; exact Nat.le_refl _)]
    repeat' (first | (fail_if_success (with_reducible refine xstp ?_)); first | ((with_reducible refine And.intro (fun (hb : _ = true) => ?_) (fun (hb : _ = false) => ?_)) <;> replace hb := xnC hb <;> (try first | exact xfC | exact bff hb (by assumption) | exact bff (by assumption) hb)) | (with_reducible refine Both.mk ?_ ?_) | ((with_reducible refine And.intro ?_ ?_); focus exact xoC) | ((with_reducible refine Or.inl ⟨?_, ?_, ?_⟩); (focus rfl); focus exact xaC) | ((with_reducible refine xwB ?_ ?_); focus exact xaC) | ((with_reducible refine xwC ?_ ?_); focus exact xaC) | ((with_reducible refine xwD ?_ ?_); focus exact xaC) | ((with_reducible refine xwE ?_ ?_); focus exact xaC) | (with_reducible intro hc; (try simp only [capsP, and_true] at hc); (try exact xfC)) | ((fail_if_success (with_reducible first | refine xgon ?_ | intro _)); (conv => whnf); (fail_if_success (fail_if_success (with_reducible first | refine xstp ?_ | refine Both.mk ?_ ?_ | refine xgon ?_ | intro _)))))
    refine FinK.mk ⟨[], _, _, ⟨rfl, rfl⟩, ?_⟩; (repeat' first | refine And.intro ?_ ?_ | exact xeC | fail)
set_option maxRecDepth 10000 in
theorem cSealR (s : ByteArray) (hs : s.size ≤ 140737488355320) :
    Ctr Try.prog 75 [.c (.s s)] [] fun v h => v = .c (.s (mkS (sealL s.data.toList))) ∧ h = [] := by
  refine Ctr.mk' tbv mixed Try.func75 rfl rfl rfl (fun _ _ => by kernel_rfl) (by kernel_rfl) (by rfl) (by rfl) (by (repeat' first | refine And.intro ?_ ?_ | exact xeC | fail)) ?_
  repeat' (first | (fail_if_success (with_reducible refine xstp ?_)); first | ((with_reducible refine And.intro (fun (hb : _ = true) => ?_) (fun (hb : _ = false) => ?_)) <;> replace hb := xnC hb <;> (try first | exact xfC | exact bff hb (by assumption) | exact bff (by assumption) hb)) | (with_reducible refine Both.mk ?_ ?_) | ((with_reducible refine And.intro ?_ ?_); focus exact xoC) | ((with_reducible refine Or.inl ⟨?_, ?_, ?_⟩); (focus rfl); focus exact xaC) | ((with_reducible refine xwB ?_ ?_); focus exact xaC) | ((with_reducible refine xwC ?_ ?_); focus exact xaC) | ((with_reducible refine xwD ?_ ?_); focus exact xaC) | ((with_reducible refine xwE ?_ ?_); focus exact xaC) | (with_reducible intro hc; (try simp only [capsP, and_true] at hc); (try exact xfC)) | ((fail_if_success (with_reducible first | refine xgon ?_ | intro _)); (conv => whnf); (fail_if_success (fail_if_success (with_reducible first | refine xstp ?_ | refine Both.mk ?_ ?_ | refine xgon ?_ | intro _)))))
  refine xcal (σ := []) (nl := []) (ccrcR s (by omega)) ?_
  rintro v h' ⟨rfl, rfl⟩ hcaps
  refine xret ?_
  repeat' (first | (fail_if_success (with_reducible refine xstp ?_)); first | ((with_reducible refine And.intro (fun (hb : _ = true) => ?_) (fun (hb : _ = false) => ?_)) <;> replace hb := xnC hb <;> (try first | exact xfC | exact bff hb (by assumption) | exact bff (by assumption) hb)) | (with_reducible refine Both.mk ?_ ?_) | ((with_reducible refine And.intro ?_ ?_); focus exact xoC) | ((with_reducible refine Or.inl ⟨?_, ?_, ?_⟩); (focus rfl); focus exact xaC) | ((with_reducible refine xwB ?_ ?_); focus exact xaC) | ((with_reducible refine xwC ?_ ?_); focus exact xaC) | ((with_reducible refine xwD ?_ ?_); focus exact xaC) | ((with_reducible refine xwE ?_ ?_); focus exact xaC) | (with_reducible intro hc; (try simp only [capsP, and_true] at hc); (try exact xfC)) | ((fail_if_success (with_reducible first | refine xgon ?_ | intro _)); (conv => whnf); (fail_if_success (fail_if_success (with_reducible first | refine xstp ?_ | refine Both.mk ?_ ?_ | refine xgon ?_ | intro _)))))
  have hlt := crc_lt s.data.toList
  have hw : IntKind.u64.wrap (crc s.data.toList : Nat) = (crc s.data.toList : Nat) := by
    rw [IntKind.wrap_u64]; omega
  rw [hw]
  refine xcal (σ := []) (nl := []) (cBytes (crc s.data.toList) 4 (by omega) (by omega)) ?_
  rintro v h' ⟨rfl, rfl⟩ hcaps
  have h4 : (mkS (le 4 (crc s.data.toList))).size = 4 := le_length 4 _
  refine xret ?_
  repeat' (first | (fail_if_success (with_reducible refine xstp ?_)); first | ((with_reducible refine And.intro (fun (hb : _ = true) => ?_) (fun (hb : _ = false) => ?_)) <;> replace hb := xnC hb <;> (try first | exact xfC | exact bff hb (by assumption) | exact bff (by assumption) hb)) | (with_reducible refine Both.mk ?_ ?_) | ((with_reducible refine And.intro ?_ ?_); focus exact xoC) | ((with_reducible refine Or.inl ⟨?_, ?_, ?_⟩); (focus rfl); focus exact xaC) | ((with_reducible refine xwB ?_ ?_); focus exact xaC) | ((with_reducible refine xwC ?_ ?_); focus exact xaC) | ((with_reducible refine xwD ?_ ?_); focus exact xaC) | ((with_reducible refine xwE ?_ ?_); focus exact xaC) | (with_reducible intro hc; (try simp only [capsP, and_true] at hc); (try exact xfC)) | ((fail_if_success (with_reducible first | refine xgon ?_ | intro _)); (conv => whnf); (fail_if_success (fail_if_success (with_reducible first | refine xstp ?_ | refine Both.mk ?_ ?_ | refine xgon ?_ | intro _)))))
  rw [← mkS_of s, mkS_append]
  refine FinK.mk ⟨[], _, _, ⟨rfl, rfl⟩, ?_⟩; (repeat' first | refine And.intro ?_ ?_ | exact xeC | fail)
def openL (l : List UInt8) : List UInt8 × Nat := if l.length < 4 then ([], 1) else if sealL (l.drop 4) = l then (l.drop 4, 0) else ([], 11)
set_option maxRecDepth 10000 in
theorem cOpen (l : List UInt8) (hs : l.length ≤ 140737488355320) :
    Ctr Try.prog 62 [.c (.s (mkS l))] [] fun v h => v = .t [.c (.s (mkS (openL l).1)), .c (.i .i64 ((openL l).2 : Nat))] ∧ h = [] := by
  refine Ctr.mk' tbv mixed Try.func62 rfl rfl rfl (fun _ _ => by kernel_rfl) (by kernel_rfl) (by rfl) (by rfl) (by (repeat' first | refine And.intro ?_ ?_ | exact xeC | fail)) ?_
  repeat' (first | (fail_if_success (with_reducible refine xstp ?_)); first | ((with_reducible refine And.intro (fun (hb : _ = true) => ?_) (fun (hb : _ = false) => ?_)) <;> replace hb := xnC hb <;> (try first | exact xfC | exact bff hb (by assumption) | exact bff (by assumption) hb)) | (with_reducible refine Both.mk ?_ ?_) | ((with_reducible refine And.intro ?_ ?_); focus exact xoC) | ((with_reducible refine Or.inl ⟨?_, ?_, ?_⟩); (focus rfl); focus exact xaC) | ((with_reducible refine xwB ?_ ?_); focus exact xaC) | ((with_reducible refine xwC ?_ ?_); focus exact xaC) | ((with_reducible refine xwD ?_ ?_); focus exact xaC) | ((with_reducible refine xwE ?_ ?_); focus exact xaC) | (with_reducible intro hc; (try simp only [capsP, and_true] at hc); (try exact xfC)) | ((fail_if_success (with_reducible first | refine xgon ?_ | intro _)); (conv => whnf); (fail_if_success (fail_if_success (with_reducible first | refine xstp ?_ | refine Both.mk ?_ ?_ | refine xgon ?_ | intro _)))))
  · rw [show openL l = ([], 1) by unfold openL; rw [if_pos (by have : (mkS l).size = l.length := rfl; omega)]]
    refine FinK.mk ⟨[], _, _, ⟨rfl, rfl⟩, ?_⟩; (repeat' first | refine And.intro ?_ ?_ | exact xeC | fail)
  have hz : (mkS l).size = l.length := rfl
  have he : (mkS l).extract (Int.toNat 4) (mkS l).size = mkS (l.drop 4) := by
    rw [mkS_ext, hz, List.take_length]; rfl
  rw [he]
  refine xcal (σ := []) (nl := []) (cSeal (mkS (l.drop 4)) (by rw [mkS_size, List.length_drop]; omega)) ?_
  rintro v h' ⟨rfl, rfl⟩ hcaps
  rw [mkS_list]
  refine xret ?_
  repeat' (first | (fail_if_success (with_reducible refine xstp ?_)); first | ((with_reducible refine And.intro (fun (hb : _ = true) => ?_) (fun (hb : _ = false) => ?_)) <;> replace hb := xnC hb <;> (try first | exact xfC | exact bff hb (by assumption) | exact bff (by assumption) hb)) | (with_reducible refine Both.mk ?_ ?_) | ((with_reducible refine And.intro ?_ ?_); focus exact xoC) | ((with_reducible refine Or.inl ⟨?_, ?_, ?_⟩); (focus rfl); focus exact xaC) | ((with_reducible refine xwB ?_ ?_); focus exact xaC) | ((with_reducible refine xwC ?_ ?_); focus exact xaC) | ((with_reducible refine xwD ?_ ?_); focus exact xaC) | ((with_reducible refine xwE ?_ ?_); focus exact xaC) | (with_reducible intro hc; (try simp only [capsP, and_true] at hc); (try exact xfC)) | ((fail_if_success (with_reducible first | refine xgon ?_ | intro _)); (conv => whnf); (fail_if_success (fail_if_success (with_reducible first | refine xstp ?_ | refine Both.mk ?_ ?_ | refine xgon ?_ | intro _)))))
  · have h : ¬ sealL (l.drop 4) = l := fun e => hb (by rw [e])
    rw [show openL l = ([], 11) by unfold openL; rw [if_neg (by omega), if_neg h]]
    refine FinK.mk ⟨[], _, _, ⟨rfl, rfl⟩, ?_⟩; (repeat' first | refine And.intro ?_ ?_ | exact xeC | fail)
  · have h := mkS_inj.1 hb
    rw [show openL l = (l.drop 4, 0) by unfold openL; rw [if_neg (by omega), if_pos h], he]
    refine FinK.mk ⟨[], _, _, ⟨rfl, rfl⟩, ?_⟩; (repeat' first | refine And.intro ?_ ?_ | exact xeC | fail)
set_option maxRecDepth 10000 in
theorem cOpenR (l : List UInt8) (hs : l.length ≤ 140737488355320) :
    Ctr Try.prog 65 [.c (.s (mkS l))] [] fun v h => v = .t [.c (.s (mkS (openL l).1)), .c (.i .i64 ((openL l).2 : Nat))] ∧ h = [] := by
  refine Ctr.mk' tbv mixed Try.func65 rfl rfl rfl (fun _ _ => by kernel_rfl) (by kernel_rfl) (by rfl) (by rfl) (by (repeat' first | refine And.intro ?_ ?_ | exact xeC | fail)) ?_
  repeat' (first | (fail_if_success (with_reducible refine xstp ?_)); first | ((with_reducible refine And.intro (fun (hb : _ = true) => ?_) (fun (hb : _ = false) => ?_)) <;> replace hb := xnC hb <;> (try first | exact xfC | exact bff hb (by assumption) | exact bff (by assumption) hb)) | (with_reducible refine Both.mk ?_ ?_) | ((with_reducible refine And.intro ?_ ?_); focus exact xoC) | ((with_reducible refine Or.inl ⟨?_, ?_, ?_⟩); (focus rfl); focus exact xaC) | ((with_reducible refine xwB ?_ ?_); focus exact xaC) | ((with_reducible refine xwC ?_ ?_); focus exact xaC) | ((with_reducible refine xwD ?_ ?_); focus exact xaC) | ((with_reducible refine xwE ?_ ?_); focus exact xaC) | (with_reducible intro hc; (try simp only [capsP, and_true] at hc); (try exact xfC)) | ((fail_if_success (with_reducible first | refine xgon ?_ | intro _)); (conv => whnf); (fail_if_success (fail_if_success (with_reducible first | refine xstp ?_ | refine Both.mk ?_ ?_ | refine xgon ?_ | intro _)))))
  · rw [show openL l = ([], 1) by unfold openL; rw [if_pos (by have : (mkS l).size = l.length := rfl; omega)]]
    refine FinK.mk ⟨[], _, _, ⟨rfl, rfl⟩, ?_⟩; (repeat' first | refine And.intro ?_ ?_ | exact xeC | fail)
  have hz : (mkS l).size = l.length := rfl
  have he : (mkS l).extract (Int.toNat 4) (mkS l).size = mkS (l.drop 4) := by
    rw [mkS_ext, hz, List.take_length]; rfl
  rw [he]
  refine xcal (σ := []) (nl := []) (cSealR (mkS (l.drop 4)) (by rw [mkS_size, List.length_drop]; omega)) ?_
  rintro v h' ⟨rfl, rfl⟩ hcaps
  rw [mkS_list]
  refine xret ?_
  repeat' (first | (fail_if_success (with_reducible refine xstp ?_)); first | ((with_reducible refine And.intro (fun (hb : _ = true) => ?_) (fun (hb : _ = false) => ?_)) <;> replace hb := xnC hb <;> (try first | exact xfC | exact bff hb (by assumption) | exact bff (by assumption) hb)) | (with_reducible refine Both.mk ?_ ?_) | ((with_reducible refine And.intro ?_ ?_); focus exact xoC) | ((with_reducible refine Or.inl ⟨?_, ?_, ?_⟩); (focus rfl); focus exact xaC) | ((with_reducible refine xwB ?_ ?_); focus exact xaC) | ((with_reducible refine xwC ?_ ?_); focus exact xaC) | ((with_reducible refine xwD ?_ ?_); focus exact xaC) | ((with_reducible refine xwE ?_ ?_); focus exact xaC) | (with_reducible intro hc; (try simp only [capsP, and_true] at hc); (try exact xfC)) | ((fail_if_success (with_reducible first | refine xgon ?_ | intro _)); (conv => whnf); (fail_if_success (fail_if_success (with_reducible first | refine xstp ?_ | refine Both.mk ?_ ?_ | refine xgon ?_ | intro _)))))
  · have h : ¬ sealL (l.drop 4) = l := fun e => hb (by rw [e])
    rw [show openL l = ([], 11) by unfold openL; rw [if_neg (by omega), if_neg h]]
    refine FinK.mk ⟨[], _, _, ⟨rfl, rfl⟩, ?_⟩; (repeat' first | refine And.intro ?_ ?_ | exact xeC | fail)
  · have h := mkS_inj.1 hb
    rw [show openL l = (l.drop 4, 0) by unfold openL; rw [if_neg (by omega), if_pos h], he]
    refine FinK.mk ⟨[], _, _, ⟨rfl, rfl⟩, ?_⟩; (repeat' first | refine And.intro ?_ ?_ | exact xeC | fail)
end Go.Proofs.Ytkjkbpnhocjenaa
