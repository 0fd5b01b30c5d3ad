/- Part 3 of the texts that a walk of this program rests on: an abstract machine, its soundness, contracts of functions. No statement of the seat is proved in this file. -/
import Derived.Test.YtofcadbfjbefkaaQ2
import Derived.Deep.LoopGhost
import Derived.ProofKit
import Derived.SliceStrings
import Derived.SizedLaws
import Derived.Carry
import Derived.OpenShut
import Derived.Sort.Row
import Derived.Sort.Grow
import Derived.Test.YtofcadbfjbefkaaProg
import Derived.Shelf.Sort.Plain
import Derived.Shelf.Slices.In.SortNone
set_option linter.constructorNameAsVariable false
set_option linter.unusedVariables false
namespace Go.X
variable {cx : Cx} {β : Nm} {s : S} {a : Act} {w : World} {P : Program} {tb : Tb}

theorem bit_eq (L i : Nat) : bit L i = L.testBit i := by
  unfold bit Nat.testBit
  have e : Nat.land (Nat.shiftRight L i) 1 = 1 &&& (L >>> i) := Nat.and_comm (L >>> i) 1
  rw [e]
  cases h : Nat.beq (1 &&& (L >>> i)) 0 with
  | true => rw [Nat.eq_of_beq_eq_true h]; rfl
  | false => exact (bne_iff_ne.2 (Nat.ne_of_beq_eq_false h)).symm

theorem preds_bit (o : Oper) (k : Nat) : (preds o).testBit k = true ↔ ∃ e ∈ o.after, Region.binds .any e = true ∧ e.on = k := by
  unfold preds
  have key : ∀ (l : List Edge) (m : Nat), (l.foldl (fun m e => match Region.binds .any e with | true => Nat.lor m (Nat.pow 2 e.on) | false => m) m).testBit k = true ↔ (m.testBit k = true ∨ ∃ e ∈ l, Region.binds .any e = true ∧ e.on = k) := by
    intro l
    induction l with
    | nil => intro m; simp
    | cons e l ih =>
      intro m
      rw [List.foldl_cons, ih]
      cases hb : Region.binds .any e with
      | true =>
        simp only
        have : (Nat.lor m (Nat.pow 2 e.on)).testBit k = (m.testBit k || decide (e.on = k)) := by
          show (m ||| 2 ^ e.on).testBit k = _
          rw [Nat.testBit_or, Nat.testBit_two_pow]
        rw [this]
        simp only [Bool.or_eq_true, decide_eq_true_eq, List.mem_cons, exists_eq_or_imp, hb, true_and]
        exact or_assoc
      | false =>
        simp only
        constructor
        · rintro (h | ⟨e', he', h'⟩)
          · exact .inl h
          · exact .inr ⟨e', by simp [he'], h'⟩
        · rintro (h | ⟨e', he', h'⟩)
          · exact .inl h
          · rcases List.mem_cons.1 he' with rfl | he'
            · rw [hb] at h'; exact absurd h'.1 (by simp)
            · exact .inr ⟨e', he', h'⟩
  refine (key _ 0).trans ?_
  simp

theorem land_sub (p L : Nat) : Nat.beq (Nat.land p L) p = true ↔ ∀ k, p.testBit k = true → L.testBit k = true := by
  constructor
  · intro h k hk
    have e : p &&& L = p := Nat.eq_of_beq_eq_true h
    rw [← e, Nat.testBit_and] at hk
    exact (Bool.and_eq_true_iff.1 hk).2
  · intro h
    have e : p &&& L = p := by
      apply Nat.eq_of_testBit_eq
      intro k
      rw [Nat.testBit_and]
      cases hp : p.testBit k with
      | false => rfl
      | true => rw [h k hp]; rfl
    show Nat.beq (p &&& L) p = true
    rw [e]
    exact Nat.beq_refl p

structure Lst (arr : Array Oper) (L : Nat) (l : Array Bool) : Prop where
  size : l.size = arr.size
  get : ∀ i, i < arr.size → l[i]? = some (L.testBit i)
  lt : ∀ k, L.testBit k = true → k < arr.size

theorem Lst.set {arr : Array Oper} {L : Nat} {l : Array Bool} (h : Lst arr L l) {i : Nat} (hi : i < arr.size) : Lst arr (Nat.lor L (Nat.pow 2 i)) (l.setIfInBounds i true) := by
  have e : ∀ k, (Nat.lor L (Nat.pow 2 i)).testBit k = (L.testBit k || decide (i = k)) := by
    intro k
    show (L ||| 2 ^ i).testBit k = _
    rw [Nat.testBit_or, Nat.testBit_two_pow]
  refine ⟨by simp [h.size], fun k hk => ?_, fun k hk => ?_⟩
  · rw [e, Array.getElem?_setIfInBounds]
    by_cases hik : i = k
    · subst hik; simp [h.size, hi]
    · simp [hik, h.get k hk]
  · rw [e] at hk
    rcases (Bool.or_eq_true _ _).mp hk with hk | hk
    · exact h.lt k hk
    · simp at hk; omega

theorem rdy_iff {arr : Array Oper} {L : Nat} {l : Array Bool} (h : Lst arr L l) {i : Nat} {o : Oper} (ho : arr[i]? = some o) : rdy L i o = true ↔ i ∈ Region.ready .any arr l := by
  have hi : i < arr.size := (Array.getElem?_eq_some_iff.1 ho).1
  have hg : l.getD i true = L.testBit i := by
    have := h.get i hi
    rw [Array.getD_eq_getD_getElem?, this]; rfl
  have hgf : ∀ k, l.getD k false = L.testBit k := by
    intro k
    rw [Array.getD_eq_getD_getElem?]
    by_cases hk : k < arr.size
    · rw [h.get k hk]; rfl
    · rw [Array.getElem?_eq_none (by rw [h.size]; omega)]
      cases hb : L.testBit k with
      | false => rfl
      | true => exact absurd (h.lt k hb) hk
  rw [mem_ready]
  unfold rdy
  rw [Bool.and_eq_true, land_sub, bit_eq]
  constructor
  · rintro ⟨h1, h2⟩
    refine ⟨by rw [hg]; simpa using h1, o, ho, fun e he hb => ?_⟩
    rw [hgf]
    exact h2 _ ((preds_bit o _).2 ⟨e, he, hb, rfl⟩)
  · rintro ⟨h1, o', ho', h2⟩
    rw [ho] at ho'
    cases ho'
    refine ⟨by rw [hg] at h1; simp [h1], fun k hk => ?_⟩
    obtain ⟨e, he, hb, rfl⟩ := (preds_bit o k).1 hk
    have := h2 e he hb
    rwa [hgf] at this

theorem firstPure_of {L : Nat} : ∀ {l : List Oper} {i0 i : Nat} {o : Oper}, firstPure L l i0 = some (i, o) → ∃ j, i = i0 + j ∧ l[j]? = some o ∧ pureB o = true ∧ rdy L i o = true
  | [], _, _, _, h => by cases h
  | q :: r, i0, i, o, h => by
    unfold firstPure at h
    split at h
    · rename_i hb
      cases h
      obtain ⟨h1, h2⟩ := Bool.and_eq_true_iff.1 hb
      exact ⟨0, rfl, rfl, h1, h2⟩
    · obtain ⟨j, h1, h2⟩ := firstPure_of h
      exact ⟨j + 1, by omega, by simpa using h2⟩

theorem readyI_of {L : Nat} : ∀ {l : List Oper} {i0 : Nat} {i : Nat} {o : Oper}, (i, o) ∈ readyI L l i0 ↔ ∃ j, i = i0 + j ∧ l[j]? = some o ∧ rdy L i o = true
  | [], i0, i, o => by simp [readyI]
  | q :: r, i0, i, o => by
    have ih : (i, o) ∈ readyI L r (i0 + 1) ↔ ∃ j, i = i0 + 1 + j ∧ r[j]? = some o ∧ rdy L i o = true := readyI_of
    have tail : (∃ j, i = i0 + 1 + j ∧ r[j]? = some o ∧ rdy L i o = true) ↔ ∃ j, j ≠ 0 ∧ i = i0 + j ∧ (q :: r)[j]? = some o ∧ rdy L i o = true := by
      constructor
      · rintro ⟨j, h1, h2, h3⟩; exact ⟨j + 1, by omega, by omega, by simpa using h2, h3⟩
      · rintro ⟨j, h0, h1, h2, h3⟩
        obtain ⟨k, rfl⟩ := Nat.exists_eq_succ_of_ne_zero h0
        exact ⟨k, by omega, by simpa using h2, h3⟩
    unfold readyI
    split
    · rename_i hb
      rw [List.mem_cons, ih, tail]
      constructor
      · rintro (h | ⟨j, _, h⟩)
        · cases h; exact ⟨0, rfl, rfl, hb⟩
        · exact ⟨j, h⟩
      · rintro ⟨j, h1, h2, h3⟩
        cases j with
        | zero => left; simp at h2; subst h2; simp at h1; rw [h1]
        | succ j => right; exact ⟨j + 1, by omega, h1, h2, h3⟩
    · rename_i hb
      rw [ih, tail]
      constructor
      · rintro ⟨j, _, h⟩; exact ⟨j, h⟩
      · rintro ⟨j, h1, h2, h3⟩
        cases j with
        | zero => simp at h2; subst h2; simp at h1; subst h1; rw [h3] at hb; cases hb
        | succ j => exact ⟨j + 1, by omega, h1, h2, h3⟩

theorem ready_readyI {arr : Array Oper} {L : Nat} {l : Array Bool} (h : Lst arr L l) {i : Nat} : i ∈ Region.ready .any arr l ↔ ∃ o, arr[i]? = some o ∧ (i, o) ∈ readyI L arr.toList 0 := by
  constructor
  · intro hr
    obtain ⟨_, o, ho, _⟩ := mem_ready.1 hr
    exact ⟨o, ho, readyI_of.2 ⟨i, by omega, by rw [Array.getElem?_toList]; exact ho, (rdy_iff h ho).2 hr⟩⟩
  · rintro ⟨o, ho, hm⟩
    obtain ⟨j, hj, _, h3⟩ := readyI_of.1 hm
    exact (rdy_iff h ho).1 h3

/-- What is held: the laws' list beside the machine's. -/
def PendOk (β : Nm) (s : S) : List (Nat × Nat × Nat) → List (Nat × (World → Prop)) → Prop
  | [], [] => True
  | (i, f, x) :: p, (j, S) :: R => i = j ∧ (∀ w, (get s.h f x).holds β w (β f x) → S w) ∧ PendOk β s p R
  | _, _ => False

theorem PendOk.heap {β : Nm} {s s' : S} (hs : s'.h = s.h) : ∀ {p : List (Nat × Nat × Nat)} {R : List (Nat × (World → Prop))}, PendOk β s p R → PendOk β s' p R
  | [], [], _ => trivial
  | [], _ :: _, h => h.elim
  | (_, _, _) :: _, [], h => h.elim
  | (i, f, x) :: p, (j, S) :: R, h => ⟨h.1, by rw [hs]; exact h.2.1, PendOk.heap hs h.2.2⟩

theorem PendOk.now (hf : Fits β s.h w) : ∀ {p : List (Nat × Nat × Nat)} {R : List (Nat × (World → Prop))}, PendOk β s p R → ∀ r ∈ R, r.2 w
  | [], [], _, r, hr => by cases hr
  | [], _ :: _, h, _, _ => h.elim
  | (_, _, _) :: _, [], h, _, _ => h.elim
  | (i, f, x) :: p, (j, S) :: R, h, r, hr => by
    rcases List.mem_cons.1 hr with rfl | hr
    · exact h.2.1 w (hf.ck f x)
    · exact PendOk.now hf h.2.2 r hr

theorem keep_of {arr : Array Oper} {j : Nat} {o : Oper} (ho : arr[j]? = some o) {β' : Nm} {s' : S} (hw : Wf s) (hag : Agree s.h.length β β') : ∀ {p : List (Nat × Nat × Nat)} {R : List (Nat × (World → Prop))} {K : List (Nat × Nat × Nat) → Prop}, PendOk β s p R → keepK s s' o p K →
    ∃ p', K p' ∧ PendOk β' s' p' (R.filter fun r => !waits .any arr j r.1)
  | [], [], K, _, h => ⟨[], h, trivial⟩
  | [], _ :: _, K, hp, _ => hp.elim
  | (_, _, _) :: _, [], K, hp, _ => hp.elim
  | (i, f, x) :: p, (i', S) :: R, K, hp, h => by
    obtain ⟨rfl, hS, hp'⟩ := hp
    have hwt : waits .any arr j i = bit (preds o) i := by
      rw [bit_eq]
      unfold waits
      rw [ho]
      simp only [Option.map_some, Option.getD_some]
      rw [Bool.eq_iff_iff, preds_bit, Array.any_eq_true']
      constructor
      · rintro ⟨e, he, h⟩
        obtain ⟨h1, h2⟩ := Bool.and_eq_true_iff.1 h
        exact ⟨e, he, h1, by simpa using h2⟩
      · rintro ⟨e, he, h1, h2⟩
        exact ⟨e, he, by simp [h1, h2]⟩
    rw [keepK_cons] at h
    split at h
    · rename_i hb
      obtain ⟨p', hk, hp''⟩ := keep_of ho hw hag hp' h
      refine ⟨p', hk, ?_⟩
      rw [List.filter_cons, if_neg (by simp [hwt, hb])]
      exact hp''
    · rename_i hb
      have h1 := getK_of h
      have h2 := getK_of h1
      obtain ⟨hq, h3⟩ := h2
      obtain ⟨p', hk, hp''⟩ := keep_of ho hw hag hp' h3
      refine ⟨_, hk, ?_⟩
      rw [List.filter_cons, if_pos (by simp [hwt, hb])]
      refine ⟨rfl, fun w hh => hS w ?_, hp''⟩
      rw [← hq] at hh
      by_cases hf : f < s.h.length
      · rw [hag f x hf]
        exact Ck.holds_agree (n := s.h.length) (hw.h f x) (fun g y hg => (hag g y hg).symm) hh
      · have : get s.h f x = .no := by
          cases hc : get s.h f x <;> first | rfl | exact absurd (get_lt (by rw [hc]; simp)) hf
        rw [this]; trivial

theorem liftP_cons {o : Oper} {i k f x : Nat} {l : List (Nat × Nat × Nat)} : liftP o i ((k, f, x) :: l) = (match bit (preds o) k with | true => (i, f, x) :: liftP o i l | false => (k, f, x) :: liftP o i l) := rfl

/-- What is held, held for a later operation's sake. -/
theorem PendOk.lift {arr : Array Oper} {j : Nat} {o : Oper} (ho : arr[j]? = some o) {s : S} : ∀ {p : List (Nat × Nat × Nat)} {R : List (Nat × (World → Prop))}, PendOk β s p R →
    ∃ R', PendOk β s (liftP o j p) R' ∧ ∀ r ∈ R, r ∈ R' ∨ (waits .any arr j r.1 = true ∧ (j, r.2) ∈ R')
  | [], [], _ => ⟨[], trivial, fun r hr => by cases hr⟩
  | [], _ :: _, h => h.elim
  | (_, _, _) :: _, [], h => h.elim
  | (i, f, x) :: p, (i', S) :: R, h => by
    obtain ⟨rfl, h2, h3⟩ := h
    obtain ⟨R', h4, h5⟩ := PendOk.lift ho h3
    have hwt : waits .any arr j i = bit (preds o) i := by
      rw [bit_eq]
      unfold waits
      rw [ho]
      simp only [Option.map_some, Option.getD_some]
      cases hb : (preds o).testBit i with
      | true =>
        obtain ⟨e, he, h1, h2⟩ := (preds_bit o i).1 hb
        exact Array.any_eq_true'.2 ⟨e, he, by simp [h1, h2]⟩
      | false =>
        rw [Array.any_eq_false']
        intro e he hc
        obtain ⟨h1, h2⟩ := Bool.and_eq_true_iff.1 hc
        have := (preds_bit o i).2 ⟨e, he, h1, by simpa using h2⟩
        rw [hb] at this
        cases this
    rw [liftP_cons]
    cases hb : bit (preds o) i with
    | true =>
      refine ⟨(j, S) :: R', ⟨rfl, h2, h4⟩, fun r hr => ?_⟩
      rcases List.mem_cons.1 hr with rfl | hr
      · exact .inr ⟨hwt.trans hb, List.mem_cons_self ..⟩
      · rcases h5 r hr with h | ⟨h, h'⟩
        · exact .inl (List.mem_cons_of_mem _ h)
        · exact .inr ⟨h, List.mem_cons_of_mem _ h'⟩
    | false =>
      refine ⟨(i, S) :: R', ⟨rfl, h2, h4⟩, fun r hr => ?_⟩
      rcases List.mem_cons.1 hr with rfl | hr
      · exact .inl (List.mem_cons_self ..)
      · rcases h5 r hr with h | ⟨h, h'⟩
        · exact .inl (List.mem_cons_of_mem _ h)
        · exact .inr ⟨h, List.mem_cons_of_mem _ h'⟩

theorem held_of (hr : Rel cx β s a w) {op : Op} {i : Nat} {pend : List (Nat × Nat × Nat)} {K : List (Nat × Nat × Nat) → Prop} (h : heldK s op i pend K) :
    (∃ f x, reads s op = some (f, x) ∧ K ((i, f, x) :: pend)) ∨ (reads s op = none ∧ K pend) := by
  cases op with
  | load t x =>
    have h : evC s x fun v => match v with | .p f y _ => K ((i, f, y) :: pend) | .pe f y _ _ _ => K ((i, f, y) :: pend) | _ => False := h
    cases x with
    | tmp d =>
      obtain ⟨v, hv, h1⟩ := lk_of (K := fun v => match v with | .c r => (match r with | .p f y _ => K ((i, f, y) :: pend) | .pe f y _ _ _ => K ((i, f, y) :: pend) | _ => False) | _ => False) h
      cases v with
      | c r =>
        cases r with
        | p f y o => exact .inl ⟨f, y, by simp [reads, hv, C.keyOf], h1⟩
        | pe f y z e j => exact .inl ⟨f, y, by simp [reads, hv, C.keyOf], h1⟩
        | _ => exact h1.elim
      | _ => exact h1.elim
    | const v =>
      right
      unfold evC ev at h
      simp only at h
      split at h
      · rename_i r hr'
        unfold ofVal at hr'
        split at hr' <;> first | (cases hr'; exact h.elim) | cases hr'
      · exact h.elim
    | func f => exact h.elim
    | global g => exact h.elim
  | call c =>
    obtain ⟨callee, args, ats⟩ := c
    cases callee with
    | builtin b =>
      cases b with
      | len =>
        have h : (match args.toList with
          | [x] => evC s x fun v => match v with
            | .mp f y => K ((i, f, y) :: pend)
            | _ => K pend
          | _ => K pend) := h
        have hrd : reads s (.call { callee := .builtin .len, args := args, argTypes := ats }) = readsB s .len args.toList := rfl
        rw [hrd]
        split at h
        · rename_i x hx
          rw [hx]
          cases x with
          | tmp d =>
            obtain ⟨v, hv, h1⟩ := lk_of (K := fun v => match v with | .c r => (match r with | .mp f y => K ((i, f, y) :: pend) | _ => K pend) | _ => False) h
            cases v with
            | c r =>
              cases r with
              | mp f y => exact .inl ⟨f, y, by simp [readsB, hv], h1⟩
              | _ => exact .inr ⟨by simp [readsB, hv], h1⟩
            | _ => exact h1.elim
          | const v =>
            right
            refine ⟨rfl, ?_⟩
            unfold evC ev at h
            simp only at h
            split at h
            · rename_i r hr'
              unfold ofVal at hr'
              split at hr' <;> first | (cases hr'; exact h) | cases hr'
            · exact h.elim
          | func f => exact .inr ⟨rfl, h⟩
          | global g => exact h.elim
        · rename_i hne
          right
          refine ⟨?_, h⟩
          unfold readsB
          simp only
      | _ => exact .inr ⟨rfl, h⟩
    | _ => exact .inr ⟨rfl, h⟩
  | convert ts td x =>
    have h : evC s x fun v => match v with
      | .sl f y _ _ _ _ => K ((i, f, y) :: pend)
      | _ => K pend := h
    cases x with
    | tmp d =>
      obtain ⟨v, hv, h1⟩ := lk_of (K := fun v => match v with | .c r => (match r with | .sl f y _ _ _ _ => K ((i, f, y) :: pend) | _ => K pend) | _ => False) h
      cases v with
      | c r =>
        cases r with
        | sl f y z o n c => exact .inl ⟨f, y, by simp [reads, hv], h1⟩
        | _ => exact .inr ⟨by simp [reads, hv], h1⟩
      | _ => exact h1.elim
    | const v =>
      right
      refine ⟨rfl, ?_⟩
      unfold evC ev at h
      simp only at h
      split at h
      · rename_i r hr'
        unfold ofVal at hr'
        split at hr' <;> first | (cases hr'; exact h) | cases hr'
      · exact h.elim
    | func f => exact .inr ⟨rfl, h⟩
    | global g => exact h.elim
  | _ => exact .inr ⟨rfl, h⟩

theorem sep_of {arr : Array Oper} (h : sepAll arr = true) {i j : Nat} {oi oj : Oper} (hi : arr[i]? = some oi) (hj : arr[j]? = some oj) (hne : j ≠ i) (h1 : (preds oj).testBit i = false) (h2 : (preds oi).testBit j = false) : oi.apart arr oj = true := by
  have hil : i < arr.size := (Array.getElem?_eq_some_iff.1 hi).1
  have hjl : j < arr.size := (Array.getElem?_eq_some_iff.1 hj).1
  have := List.all_eq_true.1 (List.all_eq_true.1 h i (List.mem_range.2 hil)) j (List.mem_range.2 hjl)
  rw [hi, hj] at this
  simp only [bit_eq, h1, h2, Bool.false_or] at this
  rcases (Bool.or_eq_true _ _).mp this with h3 | h3
  · exact absurd (Nat.eq_of_beq_eq_true h3).symm hne
  · exact h3

theorem branch_of {step : Nat → Oper → Prop} : ∀ {l : List (Nat × Oper)}, branch step l → ∀ q ∈ l, step q.1 q.2
  | [], _, q, hq => by cases hq
  | [(i, o)], h, q, hq => by
    rcases List.mem_cons.1 hq with rfl | hq
    · exact h
    · cases hq
  | (i, o) :: q' :: r, h, q, hq => by
    rcases List.mem_cons.1 hq with rfl | hq
    · exact h.1
    · exact branch_of (l := q' :: r) h.2 q hq

theorem xdraw_wp {ops : List Oper} {arr : Array Oper} (harr : arr.toList = ops) (hv : Valid tb P) (hok : okDraw arr = true) {Q : Exit → Act → World → Prop} {K : S → Prop} {n0 : Nat} (hP : ∀ c a w, ¬ Q (.panic c) a w) (hQ : ∀ a w, Nx cx β n0 K a w → Q .normal a w) :
    ∀ (n L : Nat) (pend : List (Nat × Nat × Nat)) (s : S) (β' : Nm) (l : Array Bool) (R : List (Nat × (World → Prop))) (a : Act) (w : World), Lst arr L l → PendOk β' s pend R → Agree n0 β β' → n0 ≤ s.h.length → Rel cx β' s a w →
      xdraw P tb cx.N ops n L pend s K → wpR P .any arr Q n l R a w := by
  obtain ⟨hsel, hsep⟩ := Bool.and_eq_true_iff.1 hok
  intro n
  induction n with
  | zero =>
    intro L pend s β' l R a w hL hp hag hn hr h
    rw [xdraw_zero] at h
    split at h
    · rename_i hnil
      refine ⟨?_, hQ a w ⟨β', s, h, hr, hag, hn⟩⟩
      rw [List.eq_nil_iff_forall_not_mem]
      intro i hi
      obtain ⟨o, _, hm⟩ := (ready_readyI hL).1 hi
      rw [harr, hnil] at hm
      cases hm
    · exact h.elim
  | succ n ih =>
    intro L pend s β' l R a w hL hp hag hn hr h
    rw [xdraw_succ] at h
    split at h
    · rename_i i o hfp
      obtain ⟨j, hj, hlo, hpure, hrdy⟩ := firstPure_of hfp
      rw [Nat.zero_add] at hj
      subst hj
      have hao : arr[i]? = some o := by rw [← Array.getElem?_toList, harr]; exact hlo
      have hil : i < arr.size := (Array.getElem?_eq_some_iff.1 hao).1
      have hready := (rdy_iff hL hao).1 hrdy
      have hfree : ∀ j oj, arr[j]? = some oj → j ≠ i → l.getD j true = false → (∀ e ∈ oj.after, Region.binds .any e = true → e.on ≠ i) → o.apart arr oj = true := by
        intro j oj hoj hji hun hno
        refine sep_of hsep hao hoj hji ?_ ?_
        · cases hb : (preds oj).testBit i with
          | false => rfl
          | true =>
            obtain ⟨e, he, h1, h2⟩ := (preds_bit oj i).1 hb
            exact absurd h2 (hno e he h1)
        · cases hb : (preds o).testBit j with
          | false => rfl
          | true =>
            obtain ⟨h1, h2⟩ := Bool.and_eq_true_iff.1 hrdy
            have := (land_sub _ _).1 h2 j hb
            have hjl : j < arr.size := (Array.getElem?_eq_some_iff.1 hoj).1
            rw [Array.getD_eq_getD_getElem?, hL.get j hjl, this] at hun
            cases hun
      have hnow := PendOk.now hr.ft hp
      obtain ⟨s1, hs1, hr1, h1 | h1⟩ := guardK_of harr hr h
      · obtain ⟨t1, g1⟩ := s1
        obtain ⟨hwant, h2⟩ := h1
        have es1 : ∃ s1 : S, s1 = ⟨t1, g1⟩ := ⟨_, rfl⟩
        obtain ⟨s1, es1⟩ := es1
        rw [← es1] at hs1 hr1
        have h2 : heldK s1 o.op i (liftP o i pend) fun pend' => xpure tb s1 o.op fun v => putK cx.N s1.t s1.h o.dst v fun s' => xdraw P tb cx.N ops n (Nat.lor L (Nat.pow 2 i)) pend' s' K := by rw [es1]; exact h2
        obtain ⟨R1, hp1, hRR⟩ := (hp.heap hs1).lift hao
        have take : ∀ (S : World → Prop) (pend' : List (Nat × Nat × Nat)) (R' : List (Nat × (World → Prop))), PendOk β' s1 pend' R' → (R' = R1 ∨ R' = (i, S) :: R1) → S w → (∀ w, S w → ∀ f x, reads s1 o.op = some (f, x) → (get s1.h f x).holds β' w (β' f x)) → (R' = R1 → S = fun _ => True) →
            (xpure tb s1 o.op fun v => putK cx.N s1.t s1.h o.dst v fun s' => xdraw P tb cx.N ops n (Nat.lor L (Nat.pow 2 i)) pend' s' K) → wpR P .any arr Q (n + 1) l R a w := by
          intro S pend' R' hp' hR' hS hSr htriv h3
          obtain ⟨v, hrun, hvb, hput⟩ := xpure_of hv hr1.tm hr1.ft (xpure_wf (K' := fun v => v.bel s1.h.length ∧ _) hr1.wf (fun v hv h => ⟨hv, h⟩) h3)
          obtain ⟨s', ⟨hk, hs'⟩, hr'⟩ := hr1.put (dst := o.dst) (v := v) hvb (put_heap hput)
          have hrest := ih _ pend' s' β' _ R' _ w (hL.set hil) (hp'.heap hs') hag (by rw [hs', hs1]; exact hn) hr' hk
          refine wpR_first (S := S) (v := v.ren β') hao (Region.noSelect_spec hsel) (fun c a w hc => (hP _ _ _ hc).elim) n l R ((i, S) :: R1) a w hfree hready (.inl ⟨hwant, fun w' hw' => hrun w' (hSr w' hw')⟩) hS hnow (List.mem_cons_self ..) (fun r hr => (hRR r hr).imp (List.mem_cons_of_mem _) fun h => ⟨h.1, List.mem_cons_of_mem _ h.2⟩) ?_
          rcases hR' with rfl | rfl
          · rw [htriv rfl]; exact wpR_free _ _ _ i _ _ hrest
          · exact hrest
        rcases held_of hr1 h2 with ⟨f, x, hrd, h3⟩ | ⟨hrd, h3⟩
        · refine take (fun w' => (get s1.h f x).holds β' w' (β' f x)) ((i, f, x) :: liftP o i pend) ((i, fun w' => (get s1.h f x).holds β' w' (β' f x)) :: R1) ⟨rfl, fun w h => h, hp1⟩ (.inr rfl) (hr1.ft.ck f x) (fun w hw f' x' hrd' => ?_) (fun e => ?_) h3
          · rw [hrd] at hrd'; cases hrd'; exact hw
          · have := congrArg List.length e; simp at this
        · exact take (fun _ => True) (liftP o i pend) R1 hp1 (.inl rfl) trivial (fun w _ f x hrd' => by rw [hrd] at hrd'; cases hrd') (fun _ => rfl) h3
      · obtain ⟨hwant, h2⟩ := h1
        obtain ⟨R1, hp1, hRR⟩ := (hp.heap hs1).lift hao
        obtain ⟨s', hk, hs', hr'⟩ := skip_wp hr1 h2
        have hrest := ih _ _ s' β' _ R1 _ w (hL.set hil) (hp1.heap hs') hag (by rw [hs', hs1]; exact hn) hr' hk
        exact wpR_first (S := fun _ => True) (v := undef) hao (Region.noSelect_spec hsel) (fun c a w hc => (hP _ _ _ hc).elim) n l R ((i, fun _ => True) :: R1) a w hfree hready (.inr ⟨hwant, rfl⟩) trivial hnow (List.mem_cons_self ..) (fun r hr => (hRR r hr).imp (List.mem_cons_of_mem _) fun h => ⟨h.1, List.mem_cons_of_mem _ h.2⟩) (wpR_free _ _ _ i _ _ hrest)
    · split at h
      · rename_i hnil
        have hnone : Region.ready .any arr l = [] := by
          rw [List.eq_nil_iff_forall_not_mem]
          intro i hi
          obtain ⟨o, _, hm⟩ := (ready_readyI hL).1 hi
          rw [harr, hnil] at hm
          cases hm
        exact ⟨fun _ => hQ a w ⟨β', s, h, hr, hag, hn⟩, fun j hj => by rw [hnone] at hj; cases hj⟩
      · rename_i q ql hq
        refine ⟨fun hnone => ?_, fun j hj => ?_⟩
        · exfalso
          have hm : q ∈ readyI L ops 0 := by rw [hq]; exact List.mem_cons_self ..
          obtain ⟨i, o⟩ := q
          obtain ⟨k, hk, hlo, hrd⟩ := readyI_of.1 hm
          have hik : i = k := by omega
          subst hik
          have hao : arr[i]? = some o := by rw [← Array.getElem?_toList, harr]; exact hlo
          have := (rdy_iff hL hao).1 hrd
          rw [hnone] at this
          cases this
        · obtain ⟨o, hao, hm⟩ := (ready_readyI hL).1 hj
          rw [harr, hq] at hm
          have hst := branch_of h (j, o) hm
          have hil : j < arr.size := (Array.getElem?_eq_some_iff.1 hao).1
          have h1 := gop_wp (Q := Q) harr hv hr hst
          have next : ∀ a w, Nx cx β' s.h.length (fun s' => keepK s s' o pend fun pend' => xdraw P tb cx.N ops n (Nat.lor L (Nat.pow 2 j)) pend' s' K) a w →
              (∀ r ∈ R, waits .any arr j r.1 = false → r.2 w) ∧ wpR P .any arr Q n (l.setIfInBounds j true) (R.filter fun r => !waits .any arr j r.1) a w := by
            rintro a w ⟨β'', s', hk, hr', hag', hl'⟩
            obtain ⟨p', hk', hp'⟩ := keep_of hao hr.wf hag' hp hk
            refine ⟨fun r hr0 hw => PendOk.now hr'.ft hp' r (List.mem_filter.2 ⟨hr0, by simp [hw]⟩), ?_⟩
            exact ih _ p' s' β'' _ _ a w (hL.set hil) hp' (fun f x hf => (hag f x hf).trans (hag' f x (by omega))) (by omega) hr' hk'
          unfold wpOp
          simp only [hao]
          split at h1
          · rename_i hw
            rw [if_pos hw]
            exact .inl (Oper.wp_mono next h1)
          · rename_i hw
            rw [if_neg hw]
            exact next _ _ h1
end Go.X


set_option linter.constructorNameAsVariable false
set_option linter.unusedVariables false
namespace Go.X
variable {cx : Cx} {β : Nm} {s : S} {a : Act} {w : World} {P : Program} {tb : Tb}

/-- A loop by an invariant: a family of states, with a measure. -/
structure LoopK (m : Nat) (body : S → (S → Prop) → Prop) (s : S) : Prop where
  ex : ∃ (ι : Type) (I : ι → S) (μ : ι → Nat), (∃ i σ, entP m σ s (I i)) ∧ ∀ i, capsP (I i).h → body (I i) fun s' => ∃ j σ, μ j < μ i ∧ entP m σ s' (I j)

theorem LoopK.mk' {m : Nat} {body : S → (S → Prop) → Prop} {s : S} (ι : Type) (I : ι → S) (μ : ι → Nat) (h0 : ∃ i σ, entP m σ s (I i)) (h : ∀ i, capsP (I i).h → body (I i) fun s' => ∃ j σ, μ j < μ i ∧ entP m σ s' (I j)) : LoopK m body s := ⟨ι, I, μ, h0, h⟩

def condK (s : S) (q : Operand) (A B : S → Prop) : Prop :=
  match q with
  | .tmp d => match s with
    | ⟨t0, h0⟩ => lk t0 d fun v => match v with
      | .c .tt => A ⟨t0, h0⟩
      | .c .ff => B ⟨t0, h0⟩
      | .c (.b b) => (b = true → A ⟨(d, .c .tt) :: t0, h0⟩) ∧ (b = false → B ⟨(d, .c .ff) :: t0, h0⟩)
      | _ => False
  | .const v => match v with
    | .bool true => A s
    | .bool false => B s
    | _ => False
  | _ => False

def wpC (P : Program) (tb : Tb) (N m : Nat) (c : Code) : S → (S → Prop) → (Nat → S → Prop) → (S → Prop) → Prop :=
  Code.rec (motive := fun _ => S → (S → Prop) → (Nat → S → Prop) → (S → Prop) → Prop)
    (fun s Kn _ _ => Kn s)
    (fun _ ops draw s Kn _ _ => match draw with
      | false => xops P tb N ops.toList ops.toList s Kn
      | true => xdraw P tb N ops.toList ops.toList.length 0 [] s Kn)
    (fun _ _ iha ihb s Kn Kx Kr => iha s (fun s => ihb s Kn Kx Kr) Kx Kr)
    (fun q _ _ iha ihb s Kn Kx Kr => condK s q (fun s => iha s Kn Kx Kr) (fun s => ihb s Kn Kx Kr))
    (fun id _ ih s Kn Kx Kr => ih s Kn (fun id' s' => match Nat.beq id' id with
      | true => Kn s'
      | false => Kx id' s') Kr)
    (fun _ ih s _ Kx Kr => LoopK m (fun s' K => ih s' K Kx Kr) s)
    (fun _ _ _ _ _ _ _ _ _ _ => False)
    (fun id s _ Kx _ => Kx id s)
    (fun _ _ _ _ _ _ => False)
    (fun _ s Kn _ _ => Kn s)
    (fun _ _ _ _ _ => False)
    (fun s _ _ Kr => Kr s)
    (fun _ _ _ _ _ => False) c

/-- What is asked of code, once and for all. -/
def okC : Code → Bool
  | .region _ ops draw => match draw with
    | false => true
    | true => okDraw ops
  | .seq a b => okC a && okC b
  | .cond _ a b => okC a && okC b
  | .block _ b => okC b
  | .loop b => okC b
  | _ => true

def Nk (cx : Cx) (K : S → Prop) (a : Act) (w : World) : Prop := ∃ β s, K s ∧ Rel cx β s a w

def post (cx : Cx) (Kn : S → Prop) (Kx : Nat → S → Prop) (Kr : S → Prop) : Exit → Act → World → Prop
  | .normal, a, w => Nk cx Kn a w
  | .exit id, a, w => Nk cx (Kx id) a w
  | .ret, a, w => Nk cx Kr a w
  | _, _, _ => False

theorem Rel.drew (hr : Rel cx β s a w) : Rel cx β s a { w with drawn := w.drawn + 1 } := by
  refine ⟨hr.dfr, hr.sz, hr.tm, ⟨fun f x => Ck.holds_block (hr.ft.ck f x) rfl, hr.ft.sep⟩, hr.wf, hr.ml, hr.pin, hr.os, hr.tape, hr.out, hr.hs, hr.fr, hr.ow, hr.kn⟩

theorem condK_of {q : Operand} {A B : S → Prop} (hr : Rel cx β s a w) (h : condK s q A B) : ∃ b s', a.eval q = .bool b ∧ Rel cx β s' a w ∧ (b = true → A s') ∧ (b = false → B s') := by
  obtain ⟨t0, h0⟩ := s
  cases q with
  | tmp d =>
    obtain ⟨v, hv, h1⟩ := lk_of h
    have he : a.eval (.tmp d) = v.ren β := by have := hr.tm.tm d v hv; simp [Act.eval, this]
    split at h1
    · exact ⟨true, ⟨t0, h0⟩, he, hr, fun _ => h1, fun e => by cases e⟩
    · exact ⟨false, ⟨t0, h0⟩, he, hr, fun e => (by cases e), fun _ => h1⟩
    · rename_i b
      cases hb : b with
      | true => exact ⟨true, ⟨(d, .c .tt) :: t0, h0⟩, by rw [he, hb]; rfl, hr.same hv (by simp [T.ren, C.ren, hb]) trivial, fun _ => h1.1 hb, fun e => by cases e⟩
      | false => exact ⟨false, ⟨(d, .c .ff) :: t0, h0⟩, by rw [he, hb]; rfl, hr.same hv (by simp [T.ren, C.ren, hb]) trivial, fun e => (by cases e), fun _ => h1.2 hb⟩
    · exact h1.elim
  | const v =>
    unfold condK at h
    simp only at h
    split at h
    · exact ⟨true, ⟨t0, h0⟩, rfl, hr, fun _ => h, fun e => by cases e⟩
    · exact ⟨false, ⟨t0, h0⟩, rfl, hr, fun e => (by cases e), fun _ => h⟩
    · exact h.elim
  | func f => exact h.elim
  | global g => exact h.elim

theorem wpC_of (hv : Valid tb P) (hmx : P.follows .mixedOrders = true) : ∀ (c : Code) (s : S) (Kn : S → Prop) (Kx : Nat → S → Prop) (Kr : S → Prop) (β : Nm) (a : Act) (w : World), okC c = true → Rel cx β s a w → wpC P tb cx.N cx.m c s Kn Kx Kr → c.wp P (post cx Kn Kx Kr) a w := by
  intro c
  induction c with
  | skip => intro s Kn Kx Kr β a w _ hr h; exact wp_skip ⟨β, s, h, hr⟩
  | label l => intro s Kn Kx Kr β a w _ hr h; exact wp_label ⟨β, s, h, hr⟩
  | region id ops draw =>
    intro s Kn Kx Kr β a w hok hr h
    cases draw with
    | false =>
      refine wp_region_list (xops_wp (n := s.h.length) rfl hv (β := β) (K := Kn) ?_ ops.toList β s a w (fun _ _ _ => rfl) (Nat.le_refl _) hr h)
      rintro a w ⟨β', s', hk, hr', _⟩
      exact ⟨β', s', hk, hr'⟩
    | true =>
      refine wp_region_any hmx (wpR_sound _ _ [] _ _ ?_)
      have hlen : ops.toList.length = ops.size := rfl
      refine xdraw_wp (n0 := s.h.length) (β := β) (K := Kn) rfl hv hok (fun c a w h => h) ?_ ops.size 0 [] s β _ [] a _ ⟨by simp, fun i hi => by simp [hi], fun k hk => by simp at hk⟩ trivial (fun _ _ _ => rfl) (Nat.le_refl _) hr.drew h
      rintro a w ⟨β', s', hk, hr', _⟩
      exact ⟨β', s', hk, hr'⟩
  | seq x y ihx ihy =>
    intro s Kn Kx Kr β a w hok hr h
    obtain ⟨hx, hy⟩ := Bool.and_eq_true_iff.1 hok
    refine wp_seq (wp_mono (ihx s _ Kx Kr β a w hx hr h) ?_)
    intro e a w hq
    cases e with
    | normal =>
      obtain ⟨β', s', hk, hr'⟩ := hq
      exact ihy s' Kn Kx Kr β' a w hy hr' hk
    | _ => exact hq
  | cond q x y ihx ihy =>
    intro s Kn Kx Kr β a w hok hr h
    obtain ⟨hx, hy⟩ := Bool.and_eq_true_iff.1 hok
    have h : condK s q (fun s => wpC P tb cx.N cx.m x s Kn Kx Kr) (fun s => wpC P tb cx.N cx.m y s Kn Kx Kr) := h
    obtain ⟨b, s', he, hr', hA, hB⟩ := condK_of hr h
    cases b with
    | true => exact wp_cond_true he (ihx s' Kn Kx Kr β a w hx hr' (hA rfl))
    | false => exact wp_cond_false he (ihy s' Kn Kx Kr β a w hy hr' (hB rfl))
  | block id b ih =>
    intro s Kn Kx Kr β a w hok hr h
    refine wp_block (wp_mono (ih s Kn _ Kr β a w hok hr h) ?_)
    intro e a w hq
    cases e with
    | exit id' =>
      obtain ⟨β', s', hk, hr'⟩ := hq
      simp only [Exit.inBlock]
      split at hk
      · rename_i hb
        rw [if_pos (Nat.eq_of_beq_eq_true hb)]
        exact ⟨β', s', hk, hr'⟩
      · rename_i hb
        rw [if_neg (Nat.ne_of_beq_eq_false hb)]
        exact ⟨β', s', hk, hr'⟩
    | _ => exact hq
  | loop b ih =>
    intro s Kn Kx Kr β a w hok hr h
    obtain ⟨ι, I, μ, ⟨i0, σ0, h0⟩, hround⟩ := h.ex
    obtain ⟨β0, hr0⟩ := entP_of hr h0
    refine wp_loop_ghost (fun n a w => ∃ i β, μ i = n ∧ Rel cx β (I i) a w) (μ i0) ⟨i0, β0, rfl, hr0⟩ ?_
    rintro n a w ⟨i, β, rfl, hr⟩
    refine wp_mono (ih (I i) _ Kx Kr β a w hok hr (hround i (capsP_of hr.ft))) ?_
    intro e a w hq
    cases e with
    | normal =>
      obtain ⟨β', s', ⟨j, σ, hlt, hj⟩, hr'⟩ := hq
      obtain ⟨β'', hr''⟩ := entP_of hr' hj
      exact ⟨μ j, hlt, j, β'', rfl, hr''⟩
    | _ => exact hq
  | exit id => intro s Kn Kx Kr β a w _ hr h; exact wp_exit ⟨β, s, h, hr⟩
  | ret => intro s Kn Kx Kr β a w _ hr h; exact wp_ret ⟨β, s, h, hr⟩
  | _ => intro s Kn Kx Kr β a w _ hr h; exact h.elim

/-! ### Results -/
def resK (tb : Tb) (s : S) : List ResultVar → (List T → Prop) → Prop
  | [], K => K []
  | .tmp t :: r, K => lk s.t t fun v => resK tb s r fun l => K (v :: l)
  | .cell x t :: r, K => lk s.t x fun u => match u with
    | .c ad => load tb s t ad fun v => resK tb s r fun l => K (v :: l)
    | _ => False

def toEs : List T → (List E → Prop) → Prop
  | [], K => K []
  | .c v :: r, K => toEs r fun l => K (.c v :: l)
  | .a v :: r, K => toEs r fun l => K (.a v :: l)
  | .t _ :: _, _ => False

def oneK (l : List T) (K : T → Prop) : Prop :=
  match l with
  | [v] => K v
  | l => toEs l fun es => K (.t es)

/-- The end: a result and a heap that the contract allows. -/
structure FinK (m : Nat) (s : S) (v : T) (Q : T → List Fam → Prop) : Prop where
  ex : ∃ (σ : List Sg) (v' : T) (h' : List Fam), Q v' h' ∧ entH m σ s.h h' (ifB (v'.belB h'.length) (v.eqK s.h.length (v'.rk σ 0) True))

def resV (tmps : Array Value) (r : ResultVar) : Sem Value :=
  match r with
  | .tmp t => pure (tmps.getD t undef)
  | .cell x t => do loadVar t (← asAddr (tmps.getD x undef))

theorem resK_of (hv : Valid tb P) (hr : Rel cx β s a w) : ∀ {rs : List ResultVar} {K : List T → Prop}, resK tb s rs K →
    ∃ vs, (rs.mapM (resV a.tmps)).run P w = .ok (vs.map (T.ren β)) w ∧ K vs
  | [], K, h => ⟨[], by rw [List.mapM_nil]; rfl, h⟩
  | .tmp t :: rs, K, h => by
    obtain ⟨v, hf, h1⟩ := lk_of h
    obtain ⟨vs, hrun, hk⟩ := resK_of hv hr h1
    have e : a.tmps.getD t undef = v.ren β := by have := hr.tm.tm t v hf; simp [this]
    refine ⟨v :: vs, ?_, hk⟩
    rw [List.mapM_cons]
    simp only [Sem.run_bind, resV, Sem.run_pure, Result.andThen_ok, hrun, e, List.map_cons]
  | .cell x t :: rs, K, h => by
    obtain ⟨u, hf, h1⟩ := lk_of h
    have e : a.tmps.getD x undef = u.ren β := by have := hr.tm.tm x u hf; simp [this]
    cases u with
    | c ad =>
      obtain ⟨f, y, hkey, r, hld, h2⟩ := load_of (β := β) hv h1
      obtain ⟨vs, hrun, hk⟩ := resK_of hv hr h2
      refine ⟨r :: vs, ?_, hk⟩
      have hl := hld w (hr.ft.ck f y)
      rw [List.mapM_cons]
      have e2 : (resV a.tmps (.cell x t)).run P w = .ok (r.ren β) w := by
        unfold resV
        simp only
        rw [e]
        cases ad <;> first | (cases hkey; done) | skip
        · simpa [Instr.loadAt, Instr.sureAddr, asAddr, T.ren, C.ren] using hl
        · simpa [Instr.loadAt, Instr.sureAddr, asAddr, T.ren, C.ren] using hl
      simp only [Sem.run_bind, e2, Sem.run_pure, Result.andThen_ok, hrun, List.map_cons]
    | _ => exact h1.elim

theorem resK_wf (hw : Wf s) : ∀ {rs : List ResultVar} {K K' : List T → Prop}, (∀ vs : List T, (∀ v ∈ vs, v.bel s.h.length) → K vs → K' vs) → resK tb s rs K → resK tb s rs K'
  | [], K, K', hk, h => hk [] (by simp) h
  | .tmp t :: rs, K, K', hk, h => lk_wf hw.t (fun v hv h => resK_wf hw (fun vs hvs h => hk _ (by
      intro u hu
      rcases List.mem_cons.1 hu with rfl | hu
      · exact hv
      · exact hvs u hu) h) h) h
  | .cell x t :: rs, K, K', hk, h => lk_wf hw.t (fun v hv h => by
      cases v with
      | c ad => exact load_wf hw (fun v hv h => resK_wf hw (fun vs hvs h => hk _ (by
          intro u hu
          rcases List.mem_cons.1 hu with rfl | hu
          · exact hv
          · exact hvs u hu) h) h) h
      | _ => exact h.elim) h

theorem toEs_of : ∀ {l : List T} {K : List E → Prop}, toEs l K → ∃ es, l.map (T.ren β) = es.map (E.ren β) ∧ (∀ n, (∀ v ∈ l, v.bel n) → ∀ e ∈ es, e.bel n) ∧ K es
  | [], K, h => ⟨[], rfl, by simp, h⟩
  | .c v :: r, K, h => by
    obtain ⟨es, h1, h2, hk⟩ := toEs_of (l := r) h
    exact ⟨.c v :: es, by simp [h1, T.ren, E.ren], fun n hn e he => by
      rcases List.mem_cons.1 he with rfl | he
      · exact hn (.c v) (by simp)
      · exact h2 n (fun v hv => hn v (by simp [hv])) e he, hk⟩
  | .a v :: r, K, h => by
    obtain ⟨es, h1, h2, hk⟩ := toEs_of (l := r) h
    exact ⟨.a v :: es, by simp [h1, T.ren, E.ren], fun n hn e he => by
      rcases List.mem_cons.1 he with rfl | he
      · exact hn (.a v) (by simp)
      · exact h2 n (fun v hv => hn v (by simp [hv])) e he, hk⟩
  | .t _ :: _, K, h => h.elim

theorem results_of (hv : Valid tb P) (hr : Rel cx β s a w) {fn : Func} {rs : List ResultVar} (hrs : fn.results.toList = rs) {K : T → Prop} (h : resK tb s rs fun l => oneK l K) :
    ∃ v : T, (results fn a.tmps).run P w = .ok (v.ren β) w ∧ K v := by
  obtain ⟨vs, hrun, hone⟩ := resK_of hv hr h
  have e : (results fn a.tmps).run P w = .ok (if h : (vs.map (T.ren β)).toArray.size = 1 then (vs.map (T.ren β)).toArray[0] else .tuple (vs.map (T.ren β)).toArray) w := by
    have el : results fn a.tmps = (do let vs ← fn.results.mapM (resV a.tmps); pure (if h : vs.size = 1 then vs[0] else .tuple vs)) := by
      unfold results
      congr 1
    rw [el, Array.mapM_eq_mapM_toList, hrs]
    simp only [Sem.run_bind, Sem.run_map, hrun, Result.andThen_ok, Sem.run_pure]
  rcases vs with _ | ⟨v, _ | ⟨u, r⟩⟩
  · have hone' : toEs [] fun es => K (.t es) := hone
    obtain ⟨es, h1, h2, hk⟩ := toEs_of (β := β) hone'
    exact ⟨.t es, by rw [e]; simp [T.ren, ← h1], hk⟩
  · exact ⟨v, by rw [e]; simp, hone⟩
  · have hone' : toEs (v :: u :: r) fun es => K (.t es) := hone
    obtain ⟨es, h1, h2, hk⟩ := toEs_of (β := β) hone'
    refine ⟨.t es, ?_, hk⟩
    rw [e, dif_neg (by simp)]
    simp only [T.ren, ← h1]

theorem oneK_bel {n : Nat} {l : List T} {K : T → Prop} (hl : ∀ v ∈ l, v.bel n) (h : oneK l K) : oneK l fun v => v.bel n ∧ K v := by
  match l, h with
  | [v], h => exact ⟨hl v (by simp), h⟩
  | [], h => exact ⟨by simp [T.bel], h⟩
  | u :: v :: r, h =>
    have key : ∀ (l : List T) (K : List E → Prop), (∀ v ∈ l, v.bel n) → toEs l K → toEs l fun es => (∀ e ∈ es, e.bel n) ∧ K es := by
      intro l
      induction l with
      | nil => intro K _ h; exact ⟨by simp, h⟩
      | cons q l ih =>
        intro K hl h
        cases q with
        | c v =>
          have h1 := ih (fun l => K (.c v :: l)) (fun v hv => hl v (by simp [hv])) h
          have hv : (E.c v).bel n := hl (.c v) (by simp)
          revert h1
          have mono : ∀ (l : List T) (A B : List E → Prop), (∀ es, A es → B es) → toEs l A → toEs l B := by
            intro l
            induction l with
            | nil => intro A B hab h; exact hab _ h
            | cons q l ih => intro A B hab h; cases q <;> first | exact ih _ _ (fun es he => hab _ he) h | exact h
          exact mono l _ _ (fun es he => ⟨fun e hm => by
            rcases List.mem_cons.1 hm with rfl | hm
            · exact hv
            · exact he.1 e hm, he.2⟩)
        | a v =>
          have h1 := ih (fun l => K (.a v :: l)) (fun v hv => hl v (by simp [hv])) h
          have hv : (E.a v).bel n := hl (.a v) (by simp)
          revert h1
          have mono : ∀ (l : List T) (A B : List E → Prop), (∀ es, A es → B es) → toEs l A → toEs l B := by
            intro l
            induction l with
            | nil => intro A B hab h; exact hab _ h
            | cons q l ih => intro A B hab h; cases q <;> first | exact ih _ _ (fun es he => hab _ he) h | exact h
          exact mono l _ _ (fun es he => ⟨fun e hm => by
            rcases List.mem_cons.1 hm with rfl | hm
            · exact hv
            · exact he.1 e hm, he.2⟩)
        | t v => exact h.elim
    exact key _ _ hl h

def zipI : Nat → List T → List (Nat × T)
  | _, [] => []
  | i, v :: r => (i, v) :: zipI (i + 1) r

theorem find_zip : ∀ {l : List T} {i0 i : Nat} {v : T}, find (zipI i0 l) i = some v → ∃ j, i = i0 + j ∧ l[j]? = some v
  | [], i0, i, v, h => by cases h
  | u :: r, i0, i, v, h => by
    unfold zipI find at h
    split at h
    · rename_i he
      cases h
      exact ⟨0, by omega, rfl⟩
    · obtain ⟨j, h1, h2⟩ := find_zip h
      exact ⟨j + 1, by omega, by simpa using h2⟩

/-- How a contract is shown. -/
theorem Ctr.mk' {F : Nat} {fn : Func} {c : Code} {N : Nat} {args : List T} {h : List Fam} {Q : T → List Fam → Prop} {rs : List ResultVar} (hv : Valid tb P) (hmx : P.follows .mixedOrders = true) (hf : P.funcs[F]? = some fn) (hb : fn.body = some c) (hN : fn.ntmps = N)
    (hrs : fn.results.toList = rs) (hcf : ∀ (args : Array Value) (W : World), (callFunc F args).run P W = .ok (.enter F args) W) (hok : okC c = true) (hal : Nat.ble args.length N = true) (hab : args.all (T.belB h.length) = true) (hbk : belsK h.length h True)
    (hwp : capsP h → wpC P tb N h.length c ⟨zipI 0 args, h⟩ (fun s => resK tb s rs fun l => oneK l fun v => FinK h.length s v Q) (fun _ _ => False) (fun s => resK tb s rs fun l => oneK l fun v => FinK h.length s v Q)) : Ctr P F args h Q := by
  refine ⟨hcf, fun β W hfit => calls_of_wp hf hb ?_⟩
  have hal := Nat.le_of_ble_eq_true hal
  obtain ⟨hbel, _⟩ := belsK_of hbk (fun f x => hfit.flat f x)
  let cx : Cx := ⟨W, fun b => ∃ f x, (get h f x).owned = true ∧ (β f x).1 = b, fun b => ∃ f x, (get h f x).known = true ∧ (β f x).1 = b, h.length, β, N⟩
  have hsz : (args.map (T.ren β)).toArray.size = args.length := by simp
  have hr : Rel cx β ⟨zipI 0 args, h⟩ { tmps := (args.map (T.ren β)).toArray ++ Array.replicate (fn.ntmps - (args.map (T.ren β)).toArray.size) undef, defers := [] } W := by
    refine ⟨rfl, ?_, ⟨fun i v hv => ?_⟩, hfit, ⟨fun i v hv => ?_, hbel⟩, Nat.le_refl _, fun _ _ _ => rfl, rfl, rfl, rfl, Nat.le_refl _, fun _ _ _ => rfl, fun f x ho => .inl ⟨f, x, ho, rfl⟩, fun f x ho => .inl ⟨f, x, ho, rfl⟩⟩
    · show _ = N
      simp only [Array.size_append, Array.size_replicate, hsz]
      omega
    · obtain ⟨j, hj, hl⟩ := find_zip hv
      have hjl := (List.getElem?_eq_some_iff.1 hl).1
      simp only
      rw [Array.getElem?_append_left (by rw [hsz]; omega)]
      have : i = j := by omega
      subst this
      simp [hl]
    · obtain ⟨j, hj, hl⟩ := find_zip hv
      exact T.belB_bel (List.all_eq_true.1 hab v (List.mem_of_getElem? hl))
  have hmain := wpC_of hv hmx c _ _ _ _ β _ W hok hr (hwp (capsP_of hfit))
  have fin : ∀ a w, Nk cx (fun s => resK tb s rs fun l => oneK l fun v => FinK h.length s v Q) a w → a.defers = [] ∧ ∃ v, (results fn a.tmps).run P w = .ok v w ∧
      ∃ v0 h' β', Q v0 h' ∧ Ending.returned v = .returned (v0.ren β') ∧ v0.bel h'.length ∧ Left β h W β' h' w := by
    rintro a w ⟨β1, s1, hk, hr1⟩
    obtain ⟨v, hrun, hvb1, hfin⟩ := results_of hv hr1 hrs (resK_wf hr1.wf (fun vs hvs h => oneK_bel hvs h) hk)
    obtain ⟨σ, v', h', hQ, hent⟩ := hfin.ex
    obtain ⟨β2, β', hr2, hag2, hna, hβ, hrel, hrest⟩ := entH_of hr1 hent
    obtain ⟨hvb, heq⟩ := ifB_of hrest
    obtain ⟨he, _⟩ := eqT_of heq
    have hr' := hrel [] (fun i v hv => by cases hv)
    refine ⟨hr1.dfr, _, hrun, v', h', β', hQ, ?_, T.belB_bel hvb, ?_⟩
    · rw [T.ren_agree hvb1 hag2, he β2 hna, rk_T hβ]
    · exact ⟨hr'.ml, hr'.pin, hr'.ft, ⟨fun i v hv => (by cases hv), hr'.wf.h⟩, hr'.os, hr'.tape, hr'.out, hr'.hs, fun b hb hne => hr'.fr b hb (by rintro ⟨f, x, ho, e⟩; exact hne f x ho e), hr'.ow, hr'.kn⟩
  refine wp_mono hmain ?_
  intro e a w hq
  cases e with
  | normal => exact fin a w hq
  | ret => exact fin a w hq
  | exit id =>
    obtain ⟨_, _, hk, _⟩ := hq
    exact hk.elim
  | _ => exact hq.elim
end Go.X


namespace Go.X
theorem all_one {p : Nat → Prop} (h : p 0) : ∀ i, i < 1 → p i := by
  intro i hi
  have : i = 0 := by omega
  subst this; exact h
theorem Ctr.mono' {P : Program} {F : Nat} {args : List T} {h : List Fam} {Q Q' : T → List Fam → Prop} (hc : Ctr P F args h Q) (hq : ∀ v h', Q v h' → Q' v h') : Ctr P F args h Q' :=
  ⟨hc.cf, fun β W hf => (hc.run β W hf).mono fun e W' hh => by
    obtain ⟨v, h', β', h1, h2⟩ := hh
    exact ⟨v, h', β', hq v h' h1, h2⟩⟩

/-- A known answer. -/
theorem Ctr.tt {P : Program} {F : Nat} {args : List T} {h : List Fam} {R : List Fam → Prop} (hc : Ctr P F args h fun v h' => ∃ b, v = .c (.b b) ∧ b = true ∧ R h') : Ctr P F args h fun v h' => v = .c .tt ∧ R h' :=
  ⟨hc.cf, fun β W hf => (hc.run β W hf).mono fun e W' hh => by
    obtain ⟨v, h', β', ⟨b, rfl, rfl, hR⟩, he, _, hl⟩ := hh
    exact ⟨.c .tt, h', β', ⟨rfl, hR⟩, he, trivial, hl⟩⟩
theorem n1 {p : Prop} [Decidable p] : (decide p = true) = p := decide_eq_true_eq
theorem n2 {p : Prop} {_ : Decidable p} : decide p = false ↔ ¬p := decide_eq_false_iff_not
theorem n3 (b : Bool) : ((!b) = true) = (b = false) := Bool.not_eq_true' b
theorem n4 (b : Bool) : ((!b) = false) = (b = true) := Bool.not_eq_false' b
theorem n5 (a b : Bool) : ((a && b) = true) = (a = true ∧ b = true) := Bool.and_eq_true a b
theorem n6 {x y : Bool} : (x && y) = false ↔ x = false ∨ y = false := Bool.and_eq_false_iff
theorem n7 (a b : Bool) : ((a || b) = true) = (a = true ∨ b = true) := Bool.or_eq_true a b
theorem n8 {x y : Bool} : (x || y) = false ↔ x = false ∧ y = false := Bool.or_eq_false_iff
theorem n9 (b : Bool) : (b && true) = b := Bool.and_true b
theorem n10 {a b : Int} : ¬a < b ↔ b ≤ a := Int.not_lt
theorem n11 {a b : Int} : ¬a ≤ b ↔ b < a := Int.not_le
theorem n12 : (¬True) = False := not_true_eq_false
theorem n13 (p : Prop) : (p ∨ p) = p := or_self p
theorem n14 (p : Prop) : (True ∧ p) = p := true_and p
theorem n15 : (true = false) = False := Bool.true_eq_false
theorem n16 : (false = true) = False := Bool.false_eq_true
theorem n17 : (¬False) = True := not_false_eq_true
theorem n18 {α : Type _} [BEq α] [ReflBEq α] {a : α} : (a == a) = true := beq_self_eq_true a
theorem n19 (h : Decidable True) : @decide True h = true := decide_true h
theorem n20 (h : Decidable False) : @decide False h = false := decide_false h
theorem n21 (n : Nat) : (n : Int).toNat = n := rfl
theorem n22 (n : Nat) : 0 + n = n := Nat.zero_add n
theorem m1 {α β : Type _} {f : α → β} {a : α} {l : List α} : List.map f (a :: l) = f a :: List.map f l := rfl
theorem m2 {α β : Type _} {f : α → β} : List.map f [] = [] := rfl
theorem m3 {α : Type _} {a : α} {l m : List α} : (a :: l) ++ m = a :: (l ++ m) := rfl
theorem m4 {α : Type _} (l : List α) : [] ++ l = l := rfl
theorem m5 {α : Type _} {a : α} {l : List α} : (a :: l).length = l.length + 1 := rfl
theorem m6 {α : Type _} : ([] : List α).length = 0 := rfl
theorem m7 {α β : Type _} (a : α) (f : α → β) : Option.map f (some a) = some (f a) := rfl
theorem m8 {α β : Type _} (a : α) (f : α → Option β) : (some a).bind f = f a := rfl
theorem m9 (n : Nat) : n + 0 = n := rfl
theorem m10 (n m : Nat) : n + m - n = m := Nat.add_sub_cancel_left n m
theorem m11 {α : Type _} {p : α → Bool} {a : α} {l : List α} : (a :: l).all p = (p a && l.all p) := rfl
theorem m12 {α : Type _} {p : α → Bool} : ([] : List α).all p = true := rfl
theorem m13 {α : Type _} {l m : List α} : List.append l m = l ++ m := rfl
theorem m14 : (!true) = false := rfl
theorem m15 (b : Bool) : (b || false) = b := Bool.or_false b
theorem m16 (b : Bool) : (b || b) = b := Bool.or_self b
theorem m17 : (!false) = true := rfl
theorem m18 {α : Type _} (l : List α) : l ++ [] = l := List.append_nil l
theorem m19 (b : Bool) : (b && b) = b := Bool.and_self b
theorem bff {b : Bool} {p : Prop} (h1 : b = false) (h2 : b = true) : p := by rw [h1] at h2; cases h2
theorem kL {m : Nat} {body : S → (S → Prop) → Prop} {s : S} (h : LoopK m body s) : LoopK m body s := h
theorem kC {P : Program} {F : Nat} {args : List T} {H : List Fam} {K : T → List Fam → Prop} (h : CallK P F args H K) : CallK P F args H K := h
theorem kF {m : Nat} {s : S} {v : T} {Q : T → List Fam → Prop} (h : FinK m s v Q) : FinK m s v Q := h
theorem kM {c : Ck} {K : Ck → Prop} (h : ManyK c K) : ManyK c K := h
/-- A call, the heap's length reckoned by itself. -/
theorem CallK.mk3 {P : Program} {F : Nat} {args : List T} {H : List Fam} {K : T → List Fam → Prop} {σ : List Sg} {nl : List Fam} {args0 : List T} {h0 : List Fam} {Q : T → List Fam → Prop} {H2 H1 : List Fam} {N n : Nat} (hc : Ctr P F args0 h0 Q) (hap : apart σ = true) (hnl : nl.all nilB = true)
    (h1 : H ++ nl = H1) (hN : H1.length = N) (hn : H.length = n)
    (hH : givesF σ N H1 σ h0 = some H2) (hle : leS n H1 σ N σ h0 (belsK N (h0.map (Fam.rk σ N)) (argsK n args (args0.map (T.rk σ N)) True)))
    (hk : ∀ v h', Q v h' → capsP h' → RetG σ H2 h' v K) : CallK P F args H K := by
  subst h1 hN hn
  exact CallK.mk2 hc hap hnl hH hle hk
theorem ret_mk3 {σ : List Sg} {H h' : List Fam} {v : T} {K : T → List Fam → Prop} {H' : List Fam} {v' : T} {N : Nat} (hN : H.length = N) (h : givesF σ N H σ h' = some H') (hv : v.rk σ N = v') (hk : K v' H') : RetG σ H h' v K := by
  subst hN
  exact ret_mk h hv hk
end Go.X


set_option linter.unusedVariables false
namespace Go.X
open Go.RowKit Go.ChangeShapes Go.WideShapes Go.OpenShut

inductive K where
  | i (k : IntKind) | b | s | sl (ks : List K)

def repK : Nat → List K → List K
  | 0, _ => []
  | n + 1, l => l ++ repK n l

def kindsF (P : Program) (f : TypeId → Option (List K)) : List Field → Nat → Option (List K)
  | [], _ => some []
  | g :: r, o => if Nat.beq g.offset o then (f g.type).bind fun ks => if Nat.beq ks.length (P.cellsOf g.type) then (kindsF P f r (o + ks.length)).map fun q => ks ++ q else none else none

def kindsOf (P : Program) : Nat → TypeId → Option (List K)
  | 0, _ => none
  | n + 1, t => match P.underlying t with
    | some (.int k) => some [.i k]
    | some .bool => some [.b]
    | some .string => some [.s]
    | some (.slice e) => (kindsOf P n e).bind fun ks => if Nat.beq ks.length (P.cellsOf e) && Nat.blt 0 ks.length then some [.sl ks] else none
    | some (.struct fs) => (kindsF P (kindsOf P n) fs.toList 0).bind fun ks => if Nat.beq ks.length (P.cellsOf t) then some ks else none
    | some (.array m e) => (kindsOf P n e).bind fun ks => if Nat.beq ks.length (P.cellsOf e) && Nat.beq (m * ks.length) (P.cellsOf t) then some (repK m ks) else none
    | _ => none

mutual
def VK (W : World) : K → Value → Prop
  | .i k, v => ∃ n, v = .int k n ∧ k.min ≤ n ∧ n ≤ k.max
  | .b, v => ∃ x, v = .bool x
  | .s, v => ∃ x : ByteArray, v = .string x ∧ x.size ≤ 140737488351232
  | .sl ks, v => v = .slice none 0 0 ∨ ∃ (a : Addr) (n c : Nat), v = .slice (some a) n c ∧ n ≤ c ∧ c ≤ maxLen ∧
      (c = 0 ∨ (a.spot = none ∧ a.block < W.heap.size ∧ ∃ cur te fz, W.heap[a.block]? = some (.cells cur te fz) ∧ ∀ i, i < n → VKs W ks ((cur.toList.drop (a.off + i * ks.length)).take ks.length)))
def VKs (W : World) : List K → List Value → Prop
  | [], [] => True
  | k :: ks, v :: vs => VK W k v ∧ VKs W ks vs
  | _, _ => False
end

theorem VKs_app {W : World} : ∀ {ks ls : List K} {cs ds : List Value}, VKs W ks cs → VKs W ls ds → VKs W (ks ++ ls) (cs ++ ds)
  | [], _, [], _, _, h => by simpa using h
  | [], _, _ :: _, _, h, _ => by simp [VKs] at h
  | _ :: _, _, [], _, h, _ => by simp [VKs] at h
  | k :: ks, ls, c :: cs, ds, h, h2 => by
    simp only [VKs] at h
    simp only [List.cons_append, VKs]
    exact ⟨h.1, VKs_app h.2 h2⟩

theorem wf_bounds {k : IntKind} {n : Int} (h : (Lit.int k n).wf = true) : k.min ≤ n ∧ n ≤ k.max := by simpa [Lit.wf] using h

section
variable {H : Type} {enc : TypeId × Value → H} {P : Program} {W : World}

theorem weights_part {fs : List TypeId} {ds : List (DataW H)} : ∀ {i : Nat} {t d}, fs[i]? = some t → ds[i]? = some d → ∀ n ∈ d.weights P t, n ∈ DataW.weightsEach P fs ds :=
  fun h1 h2 => DataW.weights_mem_each h1 h2

theorem weightsAll_mem' {e : TypeId} {l : List (DataW H)} {d : DataW H} (hd : d ∈ l) {n : Nat} (hn : n ∈ d.weights P e) : n ∈ DataW.weightsAll P e l := by
  induction l with
  | nil => simp at hd
  | cons x l ih =>
    rw [DataW.weightsAll, List.mem_append]
    rcases List.mem_cons.1 hd with rfl | h
    · exact .inl hn
    · exact .inr (ih h)

theorem cells_take {a : Addr} {n : Nat} {cs : List Value} (h : W.cells? 0 a n = some cs) (h0 : 0 < n) :
    a.spot = none ∧ ∃ cur te fz, W.heap[a.block]? = some (.cells cur te fz) ∧ cs = (cur.toList.drop a.off).take n := by
  obtain ⟨_, hlen, hget⟩ := World.cells?_some h
  have h1 := hget 0 h0
  rw [List.getElem?_eq_getElem (by omega)] at h1
  have hspot : a.spot = none := by simpa [Addr.add] using World.cell?_spot h1
  obtain ⟨b, off, spot⟩ := a
  subst hspot
  refine ⟨rfl, ?_⟩
  have hb : ∃ cur te fz, W.heap[b]? = some (.cells cur te fz) := by
    unfold World.cell? at h1
    split at h1
    · rename_i c e f hh
      refine ⟨c, e, f, ?_⟩
      rw [← hh]
      simp [Addr.add]
    · cases h1
  obtain ⟨cur, te, fz, hh⟩ := hb
  refine ⟨cur, te, fz, hh, ?_⟩
  have hcell : ∀ i, W.cell? ((⟨b, off, none⟩ : Addr).add i) = cur[off + i]? := by
    intro i
    have e : ((⟨b, off, none⟩ : Addr).add i) = ⟨b, off + i, none⟩ := by unfold Addr.add; split <;> simp_all
    rw [e]
    exact cell_at hh
  apply List.ext_getElem?
  intro i
  by_cases hi : i < n
  · rw [← hget i hi, hcell, List.getElem?_take, if_pos hi, List.getElem?_drop, Array.getElem?_toList]
  · rw [List.getElem?_eq_none (by omega), List.getElem?_take, if_neg hi]

theorem repK_len (n : Nat) (ks : List K) : (repK n ks).length = n * ks.length := by
  induction n with
  | zero => simp [repK]
  | succ n ih => simp [repK, ih, Nat.add_mul, Nat.add_comm]

theorem VKs_len {W : World} : ∀ {ks : List K} {cs : List Value}, VKs W ks cs → cs.length = ks.length
  | [], [], _ => rfl
  | [], _ :: _, h => by simp [VKs] at h
  | _ :: _, [], h => by simp [VKs] at h
  | k :: ks, c :: cs, h => by
    simp only [VKs] at h
    simp [VKs_len h.2]

theorem VKs_rep {ks : List K} : ∀ {n : Nat} {cs : List Value}, (∀ i, i < n → VKs W ks ((cs.drop (i * ks.length)).take ks.length)) → cs.length = n * ks.length → VKs W (repK n ks) cs
  | 0, cs, _, hl => by
    have : cs = [] := List.length_eq_zero_iff.1 (by omega)
    subst this
    simp [repK, VKs]
  | n + 1, cs, h, hl => by
    have h0 := h 0 (by omega)
    simp only [Nat.zero_mul, List.drop_zero] at h0
    have hr : VKs W (repK n ks) (cs.drop ks.length) := by
      refine VKs_rep (fun i hi => ?_) (by rw [List.length_drop, hl, Nat.add_mul]; omega)
      have := h (i + 1) (by omega)
      rwa [Nat.add_mul, Nat.one_mul, Nat.add_comm, ← List.drop_drop] at this
    have := VKs_app h0 hr
    rwa [List.take_append_drop] at this

theorem kindsOf_trod : ∀ (n fuel : Nat) {t : TypeId} {ks : List K} {cs : List Value} {x : DataW H × List MemPlace}, kindsOf P n t = some ks → DataW.trod enc P W 0 (fun _ => true) true fuel t cs = some x →
    (∀ p ∈ x.2, p.block < W.heap.size) → (∀ q ∈ x.1.weights P t, q ≤ reachBytes) → VKs W ks cs := by
  intro n
  induction n with
  | zero => intro fuel t ks cs x hk; simp [kindsOf] at hk
  | succ n ih =>
    intro fuel t ks cs x hk h hlt hw
    unfold kindsOf at hk
    split at hk
    · rename_i k hu
      cases hk
      obtain ⟨v, rfl, _, hwf⟩ := DataW.trod_int hu h
      exact ⟨⟨v, rfl, wf_bounds hwf⟩, trivial⟩
    · rename_i hu
      cases hk
      obtain ⟨v, rfl, _⟩ := DataW.trod_bool hu h
      exact ⟨⟨v, rfl⟩, trivial⟩
    · rename_i hu
      cases hk
      obtain ⟨v, rfl, rfl, hs⟩ := DataW.trod_string hu h
      refine ⟨⟨v, rfl, ?_⟩, trivial⟩
      have := hw v.data.toList.length (by simp [DataW.weights])
      rw [Array.length_toList] at this
      exact this
    · rename_i e hu
      obtain ⟨kl, hkl, hk⟩ := Option.bind_eq_some_iff.1 hk
      split at hk
      case isFalse => cases hk
      rename_i hz
      cases hk
      obtain ⟨hz, hz0⟩ := Bool.and_eq_true_iff.1 hz
      have hz := Nat.eq_of_beq_eq_true hz
      have hz0 : 0 < kl.length := by simpa using hz0
      rcases DataW.trod_slice hu h with ⟨rfl, _⟩ | ⟨a, len, cap, elems, rest, m, _, rfl, rfl, _, hl, hm, hlen, hel, hsp, _⟩
      · exact ⟨.inl rfl, trivial⟩
      · refine ⟨.inr ⟨a, len, cap, rfl, hl, hm, ?_⟩, trivial⟩
        rcases Nat.eq_zero_or_pos cap with hc | hc
        · exact .inl hc
        right
        obtain ⟨hrl, hr⟩ := hsp rfl
        have hblk : a.block < W.heap.size := hlt (.cell a.block a.off) (List.mem_append_left _ (MemPlace.mem_row.2 ⟨0, by rw [hlen, hrl, show len + (cap - len) = cap by omega, ← hz]; exact Nat.mul_pos hc hz0, by simp⟩))
        -- one of the elements is read
        have hread : ∀ i, i < cap → ∃ cs' y, W.cells? 0 (a.add (i * P.cellsOf e)) (P.cellsOf e) = some cs' ∧ (i < len → DataW.trod enc P W 0 (fun _ => true) true m e cs' = some y ∧ elems[i]? = some y) := by
          intro i hi
          by_cases hil : i < len
          · have h1 := hel i hil
            rw [List.getElem?_eq_getElem (by omega)] at h1
            obtain ⟨cs', hcs, hy⟩ := Option.bind_eq_some_iff.1 h1
            exact ⟨cs', _, hcs, fun _ => ⟨hy, List.getElem?_eq_getElem (by omega)⟩⟩
          · have h1 := hr (i - len) (by omega)
            rw [List.getElem?_eq_getElem (by omega), show len + (i - len) = i by omega] at h1
            obtain ⟨cs', hcs, hy⟩ := Option.bind_eq_some_iff.1 h1
            exact ⟨cs', (DataW.nil, []), hcs, fun hh => absurd hh hil⟩
        obtain ⟨cs0, y0, hc0, _⟩ := hread 0 hc
        rw [Nat.zero_mul, show a.add 0 = a by simp [Addr.add]] at hc0
        obtain ⟨hspot, cur, te, fz, hh, _⟩ := cells_take hc0 (by omega)
        refine ⟨hspot, hblk, cur, te, fz, hh, fun i hi => ?_⟩
        obtain ⟨cs', y, hcs, hy⟩ := hread i (by omega)
        obtain ⟨hy, hmem⟩ := hy hi
        obtain ⟨_, cur', te', fz', hh', rfl⟩ := cells_take hcs (by omega)
        have hb' : (a.add (i * P.cellsOf e)).block = a.block := by unfold Addr.add; split <;> rfl
        have ho' : (a.add (i * P.cellsOf e)).off = a.off + i * P.cellsOf e := by unfold Addr.add; split <;> simp_all
        rw [hb'] at hh'
        rw [hh] at hh'
        cases hh'
        rw [ho', ← hz] at hy
        have hye : y ∈ elems := List.mem_of_getElem? hmem
        refine ih m hkl hy (fun p hp => hlt p (List.mem_append_right _ (List.mem_flatMap.2 ⟨y, List.mem_append_left _ hye, hp⟩))) (fun q hq => hw q ?_)
        simp only [DataW.weights, hu]
        exact List.mem_cons_of_mem _ (List.mem_append_left _ (weightsAll_mem' (List.mem_map.2 ⟨y, hye, rfl⟩) hq))
    · rename_i fs hu
      obtain ⟨kl, hkl, hk⟩ := Option.bind_eq_some_iff.1 hk
      split at hk
      case isFalse => cases hk
      rename_i hz
      cases hk
      have hz := Nat.eq_of_beq_eq_true hz
      obtain ⟨xs, m, _, rfl, hcl, hxl, hx⟩ := DataW.trod_struct hu h
      have hxl' : xs.length = fs.toList.length := by simpa using hxl
      have hw' : ∀ (i : Nat) (f : Field) (y : DataW H × List MemPlace), fs.toList[i]? = some f → xs[i]? = some y → ∀ q ∈ y.1.weights P f.type, q ≤ reachBytes := by
        intro i f y hf hy q hq
        refine hw q ?_
        simp only [DataW.weights, hu]
        exact DataW.weights_mem_each (j := i) (t := f.type) (d := y.1) (by simp [List.getElem?_map, hf]) (by simp [List.getElem?_map, hy]) q hq
      have hlt' : ∀ y ∈ xs, ∀ p ∈ y.2, p.block < W.heap.size := fun y hy p hp => hlt p (List.mem_flatMap.2 ⟨y, hy, hp⟩)
      have hx' : ∀ (i : Nat) (f : Field), fs.toList[i]? = some f → DataW.trod enc P W 0 (fun _ => true) true m f.type ((cs.drop f.offset).take (P.cellsOf f.type)) = xs[i]? := fun i f hf => hx i f (by rw [← Array.getElem?_toList]; exact hf)
      clear hx h hw hlt
      have key : ∀ (l : List Field) (j o : Nat) (kl : List K), kindsF P (kindsOf P n) l o = some kl → (∀ (i : Nat) (f : Field), l[i]? = some f → fs.toList[j + i]? = some f) → o + kl.length ≤ cs.length → VKs W kl ((cs.drop o).take kl.length) := by
        intro l
        induction l with
        | nil =>
          intro j o kl hg _ _
          simp only [kindsF, Option.some.injEq] at hg
          subst hg
          simp [VKs]
        | cons f r ihl =>
          intro j o kl hg hf hle
          unfold kindsF at hg
          split at hg
          case isFalse => cases hg
          rename_i ho
          have ho := Nat.eq_of_beq_eq_true ho
          subst ho
          obtain ⟨k1, hk1, hg⟩ := Option.bind_eq_some_iff.1 hg
          split at hg
          case isFalse => cases hg
          rename_i hz1
          have hz1 := Nat.eq_of_beq_eq_true hz1
          obtain ⟨k2, hk2, rfl⟩ := Option.map_eq_some_iff.1 hg
          have hfj := hf 0 f rfl
          have hxj := hx' j f hfj
          rw [List.getElem?_eq_getElem (by have := (List.getElem?_eq_some_iff.1 hfj).1; omega)] at hxj
          have hjl : j < xs.length := by have := (List.getElem?_eq_some_iff.1 hfj).1; omega
          have h1 := ih m hk1 hxj (hlt' _ (List.getElem_mem hjl)) (hw' j f _ hfj (List.getElem?_eq_getElem hjl))
          rw [← hz1] at h1
          rw [List.length_append] at hle
          have h2 := ihl (j + 1) (f.offset + k1.length) k2 hk2 (fun i g hi => by have := hf (i + 1) g (by simpa using hi); rwa [show j + 1 + i = j + (i + 1) by omega]) (by omega)
          have := VKs_app h1 h2
          rw [← List.drop_drop] at this
          rw [List.length_append]
          rwa [← List.take_add] at this
      have := key fs.toList 0 0 _ hkl (fun i f hf => by simpa using hf) (by omega)
      rw [List.drop_zero, List.take_of_length_le (by omega)] at this
      exact this
    · rename_i m e hu
      obtain ⟨kl, hkl, hk⟩ := Option.bind_eq_some_iff.1 hk
      split at hk
      case isFalse => cases hk
      rename_i hz
      cases hk
      obtain ⟨hz, hz2⟩ := Bool.and_eq_true_iff.1 hz
      have hz := Nat.eq_of_beq_eq_true hz
      have hz2 := Nat.eq_of_beq_eq_true hz2
      obtain ⟨xs, f, _, rfl, hcl, hxl, hx⟩ := DataW.trod_array hu h
      refine VKs_rep (fun i hi => ?_) (by omega)
      have h1 := hx i hi
      rw [List.getElem?_eq_getElem (by omega), ← hz] at h1
      have hmem : xs[i]'(by omega) ∈ xs := List.getElem_mem _
      refine ih f hkl h1 (fun p hp => hlt p (List.mem_flatMap.2 ⟨_, hmem, hp⟩)) (fun q hq => hw q ?_)
      simp only [DataW.weights, hu]
      exact weightsAll_mem' (List.mem_map.2 ⟨_, hmem, rfl⟩) hq
    · cases hk
end
end Go.X


set_option linter.unusedVariables false
namespace Go.X
open Go.RowKit Go.ChangeShapes Go.WideShapes Go.OpenShut

def K.flatB : K → Bool
  | .sl _ => false
  | _ => true

/-- Cells of flat kinds. -/
def FT : List K → List C → Prop
  | [], [] => True
  | .i k :: ks, c :: l => (∃ n, c = .i k n ∧ k.min ≤ n ∧ n ≤ k.max) ∧ FT ks l
  | .b :: ks, c :: l => (∃ x, c = .b x) ∧ FT ks l
  | .s :: ks, c :: l => (∃ x : ByteArray, c = .s x ∧ x.size ≤ 140737488351232) ∧ FT ks l
  | _, _ => False

theorem flat_view {W : World} : ∀ {ks : List K} {vs : List Value}, ks.all K.flatB = true → VKs W ks vs → ∃ l : List C, FT ks l ∧ (∀ β, l.map (C.ren β) = vs) ∧ (∀ v ∈ l, v.flat = true) ∧ l.length = ks.length
  | [], [], _, _ => ⟨[], trivial, fun _ => rfl, by simp, rfl⟩
  | [], _ :: _, _, h => by simp [VKs] at h
  | _ :: _, [], _, h => by simp [VKs] at h
  | k :: ks, v :: vs, hf, h => by
    simp only [VKs] at h
    simp only [List.all_cons, Bool.and_eq_true] at hf
    obtain ⟨l, h1, h2, h3, h4⟩ := flat_view hf.2 h.2
    cases k with
    | i k =>
      obtain ⟨n, rfl, hb⟩ := h.1
      exact ⟨.i k n :: l, ⟨⟨n, rfl, hb⟩, h1⟩, fun β => by simp [h2, C.ren], by simpa [C.flat] using h3, by simp [h4]⟩
    | b =>
      obtain ⟨x, rfl⟩ := h.1
      exact ⟨.b x :: l, ⟨⟨x, rfl⟩, h1⟩, fun β => by simp [h2, C.ren], by simpa [C.flat] using h3, by simp [h4]⟩
    | s =>
      obtain ⟨x, rfl, hb⟩ := h.1
      exact ⟨.s x :: l, ⟨⟨x, rfl, hb⟩, h1⟩, fun β => by simp [h2, C.ren], by simpa [C.flat] using h3, by simp [h4]⟩
    | sl ks => simp [K.flatB] at hf

/-- The name of a slice's row. -/
def nameOf : Value → Nat × Nat × Fl
  | .slice none _ _ => (0, 0, .nil)
  | .slice (some ⟨b, o, none⟩) _ _ => (b, o, .live)
  | .slice (some ⟨b, o, some q⟩) _ _ => (b, o, .odd q)
  | _ => (0, 0, .nil)
theorem name_ren {β : Nm} {f x z n c : Nat} {a : Option Addr} (h : β f x = nameOf (.slice a n c)) : (C.sl f x z 0 n c).ren β = .slice a n c := by
  rw [sl_adr]
  unfold adr place
  rw [h]
  rcases a with _ | ⟨b, o, _ | q⟩ <;> simp [nameOf, Addr.add]

/-- A slice of flat elements. -/
theorem sl_view {W : World} {ks : List K} {v : Value} (hf : ks.all K.flatB = true) (h : VK W (.sl ks) v) :
    ∃ (n c : Nat) (g : Nat → List C), (∀ β f x z, β f x = nameOf v → (C.sl f x z 0 n c).ren β = v) ∧ (∀ β e, (Ck.row false false e ks.length n c g).holds β W (nameOf v)) ∧ n ≤ maxLen ∧ c ≤ maxLen ∧ n ≤ c ∧ ∀ i, i < n → FT ks (g i) := by
  simp only [VK] at h
  rcases h with rfl | ⟨a, n, c, rfl, hnc, hcm, hh⟩
  · exact ⟨0, 0, fun _ => [], fun β f x z hb => name_ren hb, fun β e => ⟨by omega, fun _ => rfl, fun _ i hi => by omega, fun i hi => by omega, fun h => absurd rfl h⟩, by unfold maxLen; omega, by unfold maxLen; omega, by omega, fun i hi => by omega⟩
  · rcases hh with rfl | ⟨hs, hblk, cur, te, fz, hcur, hrow⟩
    · obtain rfl : n = 0 := by omega
      exact ⟨0, 0, fun _ => [], fun β f x z hb => name_ren hb, fun β e => ⟨by omega, fun _ => rfl, fun _ i hi => by omega, fun i hi => by omega, fun h => absurd rfl h⟩, by omega, hcm, by omega, fun i hi => by omega⟩
    · obtain ⟨b, off, spot⟩ := a
      simp only at hs hblk hcur hrow
      subst hs
      have hch : ∀ i, ∃ l : List C, i < n → FT ks l ∧ (∀ β, l.map (C.ren β) = ((cur.toList.drop (off + i * ks.length)).take ks.length)) ∧ (∀ v ∈ l, v.flat = true) ∧ l.length = ks.length := by
        intro i
        by_cases hi : i < n
        · obtain ⟨l, h⟩ := flat_view hf (hrow i hi)
          exact ⟨l, fun _ => h⟩
        · exact ⟨[], fun h => absurd h hi⟩
      refine ⟨n, c, fun i => (hch i).choose, fun β f x z hb => name_ren hb, fun β e => ⟨hnc, fun h => absurd rfl h, fun _ i hi => ((hch i).choose_spec hi).2.2.1, fun i hi => ((hch i).choose_spec hi).2.2.2, fun _ => ⟨cur, te, fz, hcur, fun i hi j v hj => ?_, (by simp)⟩⟩, by omega, hcm, hnc, fun i hi => ((hch i).choose_spec hi).1⟩
      obtain ⟨_, h2, _, h4⟩ := (hch i).choose_spec hi
      have hjl : j < ks.length := by rw [← h4]; exact (List.getElem?_eq_some_iff.1 hj).1
      have := congrArg (fun l => l[j]?) (h2 β)
      simp only [List.getElem?_map, hj, Option.map_some, List.getElem?_take, if_pos hjl, List.getElem?_drop, Array.getElem?_toList] at this
      rw [this]
      show cur[off + (i * ks.length + j)]? = cur[off + i * ks.length + j]?
      congr 1
      omega

theorem row_view {W : World} {ks : List K} {v : Value} (hf : ks.all K.flatB = true) (h : VK W (.sl ks) v) (hspot : ∀ a n c, v = .slice (some a) n c → a.spot = none) :
    ∃ (A : Nat × Nat × Fl) (n c : Nat) (g : Nat → List C), (∀ β f x, β f x = A → (C.sl f x ks.length 0 n c).ren β = v) ∧ (∀ β e, (Ck.row false false e ks.length n c g).holds β W A) ∧ n ≤ maxLen ∧ c ≤ maxLen ∧ n ≤ c ∧ ∀ i, i < n → FT ks (g i) := by
  obtain ⟨n, c, g, h1, h2⟩ := sl_view hf h
  exact ⟨nameOf v, n, c, g, fun β f x hb => h1 β f x _ hb, h2⟩

/-! ### Elements that bear slices -/
inductive DC where
  | f (c : C)
  | n (z n c : Nat)
def DC.mk (F : Nat → Nat) (i j : Nat) : DC → C
  | .f c => c
  | .n z m c => .sl (F j) i z 0 m c
theorem FT_nil {l : List C} (h : FT [] l) : l = [] := by cases l <;> first | rfl | exact h.elim
theorem FT_i {k : IntKind} {ks : List K} {l : List C} (h : FT (.i k :: ks) l) : ∃ n r, l = .i k n :: r ∧ (k.min ≤ n ∧ n ≤ k.max) ∧ FT ks r := by
  cases l with
  | nil => exact h.elim
  | cons c r => obtain ⟨⟨n, rfl, hb⟩, h2⟩ := h; exact ⟨n, r, rfl, hb, h2⟩
theorem list_of {α : Type} [Inhabited α] (enc : α → List C) {Pr : α → Prop} {g : Nat → List C} : ∀ {n : Nat}, (∀ i, i < n → ∃ x : α, g i = enc x ∧ Pr x) → ∃ l : List α, l.length = n ∧ (∀ i, i < n → g i = enc (l.getD i default)) ∧ ∀ x ∈ l, Pr x
  | 0, _ => ⟨[], rfl, fun i hi => by omega, by simp⟩
  | n + 1, h => by
    obtain ⟨l, h1, h2, h3⟩ := list_of enc (n := n) (fun i hi => h i (by omega))
    obtain ⟨x, hx, hp⟩ := h n (by omega)
    refine ⟨l ++ [x], by simp [h1], fun i hi => ?_, fun y hy => ?_⟩
    · by_cases hin : i < n
      · rw [h2 i hin]
        simp only [List.getD, List.getElem?_append_left (h1 ▸ hin)]
      · have : i = n := by omega
        subst this
        rw [hx]
        simp [List.getD, ← h1]
    · rcases List.mem_append.1 hy with hy | hy
      · exact h3 y hy
      · rw [List.mem_singleton.1 hy]; exact hp

theorem holds_row_congr {β : Nm} {W : World} {A : Nat × Nat × Fl} {e z n c : Nat} {g g' : Nat → List C} (h : (Ck.row false false e z n c g).holds β W A) (hg : ∀ i, i < n → g i = g' i) : (Ck.row false false e z n c g').holds β W A := by
  obtain ⟨h1, h2, h3, h4, h5⟩ := h
  refine ⟨h1, h2, fun hk i hi v hv => h3 hk i hi v (by rw [hg i hi]; exact hv), fun i hi => by rw [← hg i hi]; exact h4 i hi, fun hc => ?_⟩
  obtain ⟨cur, te, fz, hb, hcc, ho⟩ := h5 hc
  exact ⟨cur, te, fz, hb, fun i hi j v hj => hcc i hi j v (by rw [hg i hi]; exact hj), fun h => by cases h⟩

def nmL (L : List (Nat × Nat × Fl)) : Nm := fun f _ => L.getD f (0, 0, .nil)

/-- A heap that is only read. -/
theorem fits_read {β : Nm} {W : World} {h : List Fam} (hh : ∀ f x, (get h f x).holds β W (β f x)) (hno : ∀ f x, (get h f x).owned = false) : Fits β h W :=
  ⟨hh, fun f x g y _ ho => by rw [hno] at ho; cases ho⟩

theorem get_ones {β : Nm} {W : World} : ∀ {h : List Ck} , (∀ (f : Nat) ck, h[f]? = some ck → ck.holds β W (β f 0)) → ∀ f x, (get (h.map Fam.one) f x).holds β W (β f x) := by
  intro h hh f x
  unfold get
  rw [List.getElem?_map]
  cases hf : h[f]? with
  | none => trivial
  | some ck =>
    cases x with
    | zero => exact hh f ck hf
    | succ x => trivial
theorem get_ones_own {h : List Ck} (hh : ∀ ck ∈ h, ck.owned = false) (f x : Nat) : (get (h.map Fam.one) f x).owned = false := by
  unfold get
  rw [List.getElem?_map]
  cases hf : h[f]? with
  | none => rfl
  | some ck =>
    cases x with
    | zero => exact hh ck (List.mem_of_getElem? hf)
    | succ x => rfl

/-- What a claim wants of a law's contract. -/
theorem glue {P : Program} {F : Nat} {args : List T} {h : List Fam} {β : Nm} {W : World} (hc : Ctr P F args h (fun v _ => v = .c .tt)) (hf : Fits β h W) (hno : ∀ f x, (get h f x).owned = false) :
    Calls P F (args.map (T.ren β)).toArray W fun e W' => e = .returned (.bool true) ∧ Below W.heap.size W W' := by
  refine (hc.run β W hf).mono fun e W' hh => ?_
  obtain ⟨v, h', β', rfl, rfl, _, hl⟩ := hh
  exact ⟨rfl, hl.os, hl.tape, hl.out, hl.hs, fun k hk => hl.fr k hk (fun f x ho => by rw [hno] at ho; cases ho)⟩

/-- A slice among the arguments: where it lies has no spot. -/
theorem ok_spot {P : Program} {W : World} {r : Reach} {b t e : Nat} {v : Value} (hu : P.underlying t = some (.slice e)) (h : Value.okWide P W r b t v) : (∃ a n c, v = .slice a n c) ∧ ∀ a n c, v = .slice (some a) n c → a.spot = none := by
  unfold Value.okWide at h
  rw [hu] at h
  simp only at h
  unfold Cell.okWide at h
  rw [hu] at h
  have h : Cell.ok P W r b t v := by cases v <;> first | exact h | trivial
  unfold Cell.ok at h
  rw [hu] at h
  cases v with
  | slice a n c =>
    refine ⟨⟨a, n, c, rfl⟩, fun a' n' c' he => ?_⟩
    cases he
    exact h.2.2.2.1
  | _ => exact h.elim
theorem ok_agg {P : Program} {W : World} {r : Reach} {b t : Nat} {v : Value} {fs} (hu : P.underlying t = some (.struct fs)) (h : Value.okWide P W r b t v) : ∃ cs, v = .agg cs := by
  unfold Value.okWide at h
  rw [hu] at h
  obtain ⟨cs, h, _⟩ := h
  exact ⟨cs, h⟩
theorem ok_aggA {P : Program} {W : World} {r : Reach} {b t : Nat} {v : Value} {n e} (hu : P.underlying t = some (.array n e)) (h : Value.okWide P W r b t v) : ∃ cs, v = .agg cs := by
  unfold Value.okWide at h
  rw [hu] at h
  obtain ⟨cs, h, _⟩ := h
  exact ⟨cs, h⟩

section
variable {H : Type} {enc : TypeId × Value → H} {P : Program} {W : World}
/-- An argument, seen. -/
theorem arg_view {n : Nat} {t : TypeId} {ks : List K} {v : Value} {d : DataW H} {p : List MemPlace} {ts : List TypeId} {ds : List (DataW H)} {j : Nat} (hk : kindsOf P n t = some ks) (h : DataW.Trod enc P W 0 (fun _ => true) true t v d p) (hlt : ∀ x ∈ p, x.block < W.heap.size)
    (hsz : (DataW.weightsEach P ts ds).all (· ≤ reachBytes) = true) (hjt : ts[j]? = some t) (hjd : ds[j]? = some d) : VKs W ks v.cells.toList := by
  obtain ⟨fuel, h⟩ := h
  exact kindsOf_trod n fuel hk h hlt (fun q hq => by simpa using List.all_eq_true.1 hsz q (DataW.weights_mem_each hjt hjd q hq))
end
end Go.X


namespace Go.X
def rowOf {α : Type} [Inhabited α] (enc : α → List C) (l : List α) : Nat → List C := fun i => enc (l.getD i default)
theorem getD_at {α : Type} [Inhabited α] {l : List α} {i : Nat} (h : i < l.length) : l.getD i default = l[i] := by
  simp [List.getD, List.getElem?_eq_getElem h]
theorem app_rowG {α : Type} [Inhabited α] (enc : α → List C) (m : List α) (x : α) (cs : Nat → List C) (hc : cs 0 = enc x) (i : Nat) (hi : i < (m ++ [x]).length) : appF m.length (rowOf enc m) 0 cs i = rowOf enc (m ++ [x]) i := by
  unfold appF rowOf
  simp only [List.length_append, List.length_singleton] at hi
  by_cases h : i < m.length
  · rw [if_pos h]
    simp [List.getD, List.getElem?_append_left h]
  · rw [if_neg h]
    have : i = m.length := by omega
    subst this
    simp [hc, List.getD]
theorem app_rowL {α : Type} [Inhabited α] (enc : α → List C) (m x : List α) (o : Nat) (cs : Nat → List C) (hc : ∀ j, j < x.length → cs (o + j) = enc (x.getD j default)) (i : Nat) (hi : i < (m ++ x).length) : appF m.length (rowOf enc m) o cs i = rowOf enc (m ++ x) i := by
  unfold appF rowOf
  simp only [List.length_append] at hi
  by_cases h : i < m.length
  · rw [if_pos h]
    simp [List.getD, List.getElem?_append_left h]
  · rw [if_neg h, hc (i - m.length) (by omega)]
    simp [List.getD, List.getElem?_append_right (Nat.not_lt.1 h)]
theorem getD_ext {α : Type} [Inhabited α] {l m : List α} (h1 : l.length = m.length) (h2 : ∀ i, i < l.length → l.getD i default = m.getD i default) : l = m := by
  apply List.ext_getElem h1
  intro i hi hj
  have := h2 i hi
  rwa [getD_at hi, getD_at hj] at this
theorem take_snocG {α : Type} [Inhabited α] (l : List α) {k : Nat} (h : k < l.length) : l.take (k + 1) = l.take k ++ [l.getD k default] := by
  rw [← List.take_append_getElem h, getD_at h]
theorem drop_consG {α : Type} [Inhabited α] (l : List α) {k : Nat} (h : k < l.length) : l.drop k = l.getD k default :: l.drop (k + 1) := by
  rw [List.drop_eq_getElem_cons h, getD_at h]
theorem getD_set {α : Type} [Inhabited α] (l : List α) (k : Nat) (x : α) (i : Nat) (h : k < l.length) : (l.set k x).getD i default = if i = k then x else l.getD i default := by
  simp only [List.getD, List.getElem?_set]
  by_cases e : k = i
  · subst e; simp [h]
  · simp [e, Ne.symm e]
theorem take_set_snocG {α : Type} (l : List α) (k : Nat) (x : α) (h : k < l.length) : (l.set k x).take (k + 1) = l.take k ++ [x] := by
  rw [List.take_succ_eq_append_getElem (by rw [List.length_set]; exact h), List.take_set_of_le (Nat.le_refl _), List.getElem_set_self]
theorem take_set_leG {α : Type} (l : List α) (k : Nat) (x : α) {n : Nat} (h : n ≤ k) : (l.set k x).take n = l.take n := List.take_set_of_le h
def encB8 (b : UInt8) : List C := [.i .u8 (b.toNat : Nat)]
def encI (x : Int) : List C := [.i .i64 x]
abbrev mkS (l : List UInt8) : ByteArray := ⟨⟨l⟩⟩
instance : Inhabited UInt8 := ⟨0⟩
theorem bytesOf_row (l : List UInt8) (f : Nat → List C) (o n : Nat) (h : ∀ i, i < n → f (o + i) = encB8 (l.getD (o + i) default)) (hn : o + n ≤ l.length) : bytesOf f o n = mkS ((l.drop o).take n) := by
  unfold bytesOf mkS
  congr 1
  apply Array.ext
  · simp; omega
  · intro i h1 h2
    have hi : i < n := by simpa using h1
    simp only [Array.getElem_map, Array.getElem_range, h i hi, encB8, byteOf]
    rw [getD_at (by omega)]
    simp
theorem mkS_size (l : List UInt8) : (mkS l).size = l.length := rfl
theorem mkS_append (l m : List UInt8) : mkS l ++ mkS m = mkS (l ++ m) := by
  apply ByteArray.ext
  simp [ByteArray.data_append]
theorem mkS_inj {l m : List UInt8} : mkS l = mkS m ↔ l = m := by simp [mkS]
theorem mkS_of (s : ByteArray) : mkS s.data.toList = s := by cases s; rfl
theorem mkS_list (l : List UInt8) : (mkS l).data.toList = l := rfl
theorem mkS_ext (l : List UInt8) (a b : Nat) : (mkS l).extract a b = mkS ((l.take b).drop a) := by
  apply ByteArray.ext
  simp [ByteArray.data_extract, List.extract, List.drop_take]
/-! ### Steps whose side goals are closed by themselves -/
theorem xnC {p q : Prop} (h : p) (e : p = q := by (try simp only [n1, n2, n3, n4, n5, n6, n7, n8, n9, n10, n11, n12, n13, n14, n15, n16, reduceCtorEq, n17, n18, n19, n20, n21, n22]) <;> rfl) : q := e ▸ h
theorem xoC {p : Prop} (h : p := by first | rfl | omega | exact fun _ _ => rfl | assumption | (split <;> omega) | (and_intros <;> first | rfl | omega | (split <;> omega)) | (dsimp only [maxLen]; and_intros <;> omega) | (simp only [n21, n22, m9]; done) | (simp only [n21, n22, m9]; first | omega | (and_intros <;> omega)) | fail) : p := h
theorem xaC {p : Prop} (h : p := by first | (and_intros <;> first | rfl | omega) | fail) : p := h
theorem xeC {p : Prop} (h : p := by first | exact trivial | rfl | exact Nat.le_refl _ | exact (fun _ _ => rfl) | exact all_one (by rfl) | (simp only [Int.toNat_natCast, Nat.zero_add, Nat.add_zero]; done) | fail) : p := h
theorem xfC {p : Prop} (h : p := by first | (exfalso; assumption) | (exfalso; omega) | fail) : p := h
theorem xwB {a b c d : Prop} (h1 : b) (h2 : c) : a ∨ (b ∧ c) ∨ d := Or.inr (Or.inl ⟨h1, h2⟩)
theorem xwC {a a' b c d : Prop} (h1 : b) (h2 : c) : a ∨ a' ∨ (b ∧ c) ∨ d := Or.inr (Or.inr (Or.inl ⟨h1, h2⟩))
theorem xwD {a a' a2 b c d : Prop} (h1 : b) (h2 : c) : a ∨ a' ∨ a2 ∨ (b ∧ c) ∨ d := Or.inr (Or.inr (Or.inr (Or.inl ⟨h1, h2⟩)))
theorem xwE {a a' a2 a3 b c : Prop} (h1 : b) (h2 : c) : a ∨ a' ∨ a2 ∨ a3 ∨ (b ∧ c) := Or.inr (Or.inr (Or.inr (Or.inr ⟨h1, h2⟩)))
class StopC (p : Prop) : Prop where
  d : True
instance {m : Nat} {body : S → (S → Prop) → Prop} {s : S} : StopC (LoopK m body s) := ⟨trivial⟩
instance {P : Program} {F : Nat} {args : List T} {H : List Fam} {K : T → List Fam → Prop} : StopC (CallK P F args H K) := ⟨trivial⟩
instance {m : Nat} {s : S} {v : T} {Q : T → List Fam → Prop} : StopC (FinK m s v Q) := ⟨trivial⟩
instance {c : Ck} {K : Ck → Prop} : StopC (ManyK c K) := ⟨trivial⟩
instance {α : Type _} {p : α → Prop} : StopC (∃ x, p x) := ⟨trivial⟩
theorem xstp {p : Prop} [StopC p] (h : p) : p := h
class GoC (p : Prop) : Prop where
  d : True
instance {p q : Prop} : GoC (p ∧ q) := ⟨trivial⟩
instance {p q : Prop} : GoC (p ∨ q) := ⟨trivial⟩
theorem xgon {p : Prop} [GoC p] (h : p) : p := h
theorem xcal {P : Program} {F : Nat} {args : List T} {H : List Fam} {K : T → List Fam → Prop} {σ : List Sg} {nl : List Fam} {args0 : List T} {h0 : List Fam} {Q : T → List Fam → Prop} {H2 H1 : List Fam} {N n : Nat} (hc : Ctr P F args0 h0 Q) (hk : ∀ v h', Q v h' → capsP h' → RetG σ H2 h' v K)
    (hap : apart σ = true := by rfl) (hnl : nl.all nilB = true := by rfl)
    (h1 : H ++ nl = H1 := by first | exact List.append_nil _ | ((try simp only [List.cons_append, List.nil_append]) <;> rfl)) (hN : H1.length = N := by (try simp only [↓List.length_cons, ↓List.length_nil, Nat.reduceAdd]) <;> rfl) (hn : H.length = n := by (try simp only [↓List.length_cons, ↓List.length_nil, Nat.reduceAdd]) <;> rfl)
    (hH : givesF σ N H1 σ h0 = some H2 := by (try simp (maxSteps := 1000000) only [givesF, setF, updF, Fam.zeroth, Fam.rk, Ck.rk, C.rk, E.rk, T.rk, key, List.map_cons, List.map_nil, List.cons_append, List.nil_append, List.length_cons, List.length_nil, Option.map_some, Option.bind_some, Nat.reduceAdd, Nat.zero_add, Nat.add_zero, Nat.add_sub_cancel_left, Int.toNat_natCast, reps, List.all_cons, List.all_nil, C.flat, List.append_eq, Bool.not_true, Bool.and_true, Bool.or_false, Bool.or_self, Bool.not_false, List.append_nil, Bool.and_self]) <;> rfl)
    (hle : leS n H1 σ N σ h0 (belsK N (h0.map (Fam.rk σ N)) (argsK n args (args0.map (T.rk σ N)) True)) := by repeat' first | refine And.intro ?_ ?_ | exact xeC | fail) : CallK P F args H K := CallK.mk3 hc hap hnl h1 hN hn hH hle hk
theorem xret {σ : List Sg} {H h' : List Fam} {v : T} {K : T → List Fam → Prop} {H' : List Fam} {v' : T} {N : Nat} (hk : K v' H') (hN : H.length = N := by (try simp only [↓List.length_cons, ↓List.length_nil, Nat.reduceAdd]) <;> rfl) (h : givesF σ N H σ h' = some H' := by (try simp (maxSteps := 1000000) only [givesF, setF, updF, Fam.zeroth, Fam.rk, Ck.rk, C.rk, E.rk, T.rk, key, List.map_cons, List.map_nil, List.cons_append, List.nil_append, List.length_cons, List.length_nil, Option.map_some, Option.bind_some, Nat.reduceAdd, Nat.zero_add, Nat.add_zero, Nat.add_sub_cancel_left, Int.toNat_natCast, reps, List.all_cons, List.all_nil, C.flat, List.append_eq, Bool.not_true, Bool.and_true, Bool.or_false, Bool.or_self, Bool.not_false, List.append_nil, Bool.and_self]) <;> rfl) (hv : v.rk σ N = v' := by (try simp only [givesF, setF, updF, Fam.zeroth, Fam.rk, Ck.rk, C.rk, E.rk, T.rk, key, List.map_cons, List.map_nil, List.cons_append, List.nil_append, List.length_cons, List.length_nil, Option.map_some, Option.bind_some, Nat.reduceAdd, Nat.zero_add, Nat.add_zero, Nat.add_sub_cancel_left, Int.toNat_natCast, reps, List.all_cons, List.all_nil, C.flat, List.append_eq, Bool.not_true, Bool.and_true, Bool.or_false, Bool.or_self, Bool.not_false, List.append_nil, Bool.and_self]) <;> rfl) : RetG σ H h' v K := ret_mk3 hN h hv hk
end Go.X


set_option linter.unusedVariables false
set_option linter.unusedSimpArgs false
namespace Go.X
open Go.Sort
/-- What a sort of the library says of itself. -/
structure SortLaw (P : Program) (F : Nat) {α : Type} [Inhabited α] (enc : α → Value) (srt : List α → List α) : Prop where
  some : ∀ (blk off cap : Nat) (zs : List α) (w : World), Holds enc w blk off zs.toArray → blk < w.heap.size → zs.length < 4611686018427387904 →
    Calls P F #[.slice (some ⟨blk, off, none⟩) zs.length cap] w fun e w' => e = .returned (.tuple #[]) ∧ ∃ n os, w' = grow (putRow enc (Sort.ahead w n) blk off (srt zs).toArray) os
  none : ∀ (p : Option Addr) (cap : Nat) (w : World), Calls P F #[.slice p 0 cap] w fun e w' => e = .returned (.tuple #[]) ∧ w' = w
  len : ∀ l, (srt l).length = l.length

theorem sort_heap {α : Type} [Inhabited α] {enc : α → Value} {w : World} {blk off n : Nat} {d : Array α} {os : Array Obj} (hblk : blk < w.heap.size) (b : Nat) (hb : b < w.heap.size) :
    (grow (putRow enc (Sort.ahead w n) blk off d) os).heap[b]? = if b = blk then (w.heap[b]?).map (onCells (putCells enc off d)) else w.heap[b]? := by
  unfold grow putRow mapBlock Sort.ahead
  simp only
  rw [Array.getElem?_append_left (by simpa using hb), Array.getElem?_modify]
  by_cases h : blk = b
  · subst h; simp
  · rw [if_neg h, if_neg (Ne.symm h)]

theorem sort_ctr {P : Program} {F : Nat} {α : Type} [Inhabited α] {enc : α → Value} {srt : List α → List α} (H : SortLaw P F enc srt)
    (hcf : ∀ (args : Array Value) (W : World), (callFunc F args).run P W = .ok (.enter F args) W) (cen : α → C) (hce : ∀ β x, (cen x).ren β = enc x) (hfl : ∀ x, (cen x).flat = true)
    (k : Bool) (e : Nat) (zs : List α) (c : Nat) (hz : zs.length < 4611686018427387904) :
    Ctr P F [.c (.sl 0 0 1 0 zs.length c)] [.one (.row true k e 1 zs.length c (rowOf (fun x => [cen x]) zs))] fun v h => v = .t [] ∧ h = [.one (.row true k e 1 zs.length c (rowOf (fun x => [cen x]) (srt zs)))] := by
  refine ⟨hcf, fun β W hfit => ?_⟩
  have hno : ∀ (ck : Ck) f x, ¬ (f = 0 ∧ x = 0) → get [.one ck] f x = .no := by
    intro ck f x h
    match f, x with
    | 0, 0 => exact absurd ⟨rfl, rfl⟩ h
    | 0, x + 1 => rfl
    | f + 1, x => simp [get]
  have h0 := hfit.ck 0 0
  have hrow : get [.one (.row true k e 1 zs.length c (rowOf (fun x => [cen x]) zs))] 0 0 = .row true k e 1 zs.length c (rowOf (fun x => [cen x]) zs) := rfl
  rw [hrow] at h0
  obtain ⟨h1, h2, h3, h4, h5⟩ := h0
  have hlen := H.len zs
  -- the heap behind the call
  have fin : ∀ (W' : World), W.heap.size ≤ W'.heap.size → W'.os = W.os → W'.tape = W.tape → W'.output = W.output →
      (∀ b, b < W.heap.size → b ≠ (β 0 0).1 ∨ c = 0 → W'.heap[b]? = W.heap[b]?) →
      (Ck.row true k e 1 zs.length c (rowOf (fun x => [cen x]) (srt zs))).holds β W' (β 0 0) →
      ∃ v h' β', (v = T.t [] ∧ h' = [.one (.row true k e 1 zs.length c (rowOf (fun x => [cen x]) (srt zs)))]) ∧ Ending.returned (.tuple #[]) = .returned (v.ren β') ∧ v.bel h'.length ∧ Left β [.one (.row true k e 1 zs.length c (rowOf (fun x => [cen x]) zs))] W β' h' W' := by
    intro W' hs hos htp hou hfr hh
    refine ⟨_, _, β, ⟨rfl, rfl⟩, rfl, by simp [T.bel], ⟨Nat.le_refl _, fun _ _ _ => rfl, ⟨fun f x => ?_, fun f x g y hne ho hkn => ?_⟩, ⟨(fun i v hv => by cases hv), (fun f x => ?_)⟩, hos, htp, hou, hs, fun b hb hne => ?_, fun f x ho => ?_, fun f x ho => ?_⟩⟩
    · by_cases hf : f = 0 ∧ x = 0
      · obtain ⟨rfl, rfl⟩ := hf; exact hh
      · rw [hno _ f x hf]; trivial
    · by_cases hf : f = 0 ∧ x = 0
      · by_cases hg : g = 0 ∧ y = 0
        · exact absurd (by rw [hf.1, hf.2, hg.1, hg.2]) hne
        · rw [hno _ g y hg] at hkn; simp [Ck.known] at hkn
      · rw [hno _ f x hf] at ho; simp [Ck.owned] at ho
    · by_cases hf : f = 0 ∧ x = 0
      · obtain ⟨rfl, rfl⟩ := hf
        show (Ck.row true k e 1 zs.length c (rowOf (fun x => [cen x]) (srt zs))).bel 1
        intro i hi v hv
        simp only [rowOf, List.mem_singleton] at hv
        rw [hv]
        have hff : ∀ v : C, v.flat = true → v.bel 1 := by
          intro v hv
          cases v <;> first | trivial | cases hv | skip
          rename_i F l
          have : l = [] := by simpa [C.flat] using hv
          subst this
          simp [C.bel]
        exact hff _ (hfl _)
      · rw [hno _ f x hf]; trivial
    · by_cases hc : c = 0
      · exact hfr b hb (.inr hc)
      · exact hfr b hb (.inl fun e => hne 0 0 (row_owned hc) e.symm)
    · by_cases hf : f = 0 ∧ x = 0
      · obtain ⟨rfl, rfl⟩ := hf
        exact .inl ⟨0, 0, ho, rfl⟩
      · rw [hno _ f x hf] at ho; simp [Ck.owned] at ho
    · by_cases hf : f = 0 ∧ x = 0
      · obtain ⟨rfl, rfl⟩ := hf
        exact .inl ⟨0, 0, ho, rfl⟩
      · rw [hno _ f x hf] at ho; simp [Ck.known] at ho
  by_cases hz0 : zs.length = 0
  · have harg : ∃ p, ([T.c (.sl 0 0 1 0 zs.length c)].map (T.ren β)).toArray = #[.slice p 0 c] := by
      simp only [List.map_cons, List.map_nil, T.ren, C.ren, hz0]
      split
      · exact ⟨_, rfl⟩
      · exact ⟨_, rfl⟩
      · exact ⟨_, rfl⟩
    obtain ⟨p, hp⟩ := harg
    rw [hp]
    refine (H.none p c W).mono fun e' W' hh => ?_
    obtain ⟨rfl, rfl⟩ := hh
    refine fin W' (Nat.le_refl _) rfl rfl rfl (fun _ _ _ => rfl) ⟨h1, h2, fun _ i hi => by omega, fun i hi => by omega, fun hc => ?_⟩
    obtain ⟨cur, te, fz, hb, _, ho⟩ := h5 hc
    exact ⟨cur, te, fz, hb, fun i hi => by omega, ho⟩
  · have hc : c ≠ 0 := by omega
    have hlive := Fl.live_of fun h => hc (h2 h)
    obtain ⟨cur, te, fz, hb, hcells, ho⟩ := h5 hc
    obtain ⟨ho2, rfl, ho4, ho5⟩ := ho rfl
    have hblk : (β 0 0).1 < W.heap.size := (Array.getElem?_eq_some_iff.1 hb).1
    have harg : ([T.c (.sl 0 0 1 0 zs.length c)].map (T.ren β)).toArray = #[.slice (some ⟨(β 0 0).1, (β 0 0).2.1, Option.none⟩) zs.length c] := by
      simp only [List.map_cons, List.map_nil, T.ren, C.ren, hlive, place, Nat.zero_mul, Nat.add_zero]
    rw [harg]
    have hcell : ∀ j, W.cell? ⟨(β 0 0).1, (β 0 0).2.1 + j, Option.none⟩ = cur[(β 0 0).2.1 + j]? := fun j => cell_at hb
    have hH : Holds enc W (β 0 0).1 (β 0 0).2.1 zs.toArray := by
      intro j hj
      have hj' : j < zs.length := by simpa using hj
      refine ⟨?_, ?_⟩
      · rw [hcell]
        have := hcells j hj' 0 (cen (zs.getD j default)) rfl
        rw [show j * 1 + 0 = j by omega] at this
        rw [this, hce]
        simp [getD_at hj', hj']
      · unfold World.frozen?
        simp [hb]
    refine (H.some (β 0 0).1 (β 0 0).2.1 c zs W hH hblk hz).mono fun e' W' hh => ?_
    obtain ⟨rfl, n, os, rfl⟩ := hh
    have hheap := sort_heap (enc := enc) (w := W) (off := (β 0 0).2.1) (n := n) (d := (srt zs).toArray) (os := os) hblk
    refine fin _ (by simp [grow, putRow, mapBlock, Sort.ahead]) rfl rfl rfl (fun b hbs hne => ?_) ⟨h1, h2, fun _ i hi v hv => ?_, fun i hi => rfl, fun _ => ?_⟩
    · rw [hheap b hbs, if_neg (by rcases hne with h | h; exact h; exact absurd h hc)]
    · simp only [rowOf, List.mem_singleton] at hv
      rw [hv]; exact hfl _
    · refine ⟨putCells enc (β 0 0).2.1 (srt zs).toArray cur, te, (0, 0), ?_, fun i hi j v hj => ?_, fun _ => ⟨ho2, rfl, ho4, by simpa [putCells] using ho5⟩⟩
      · rw [hheap _ hblk, if_pos rfl, hb]; rfl
      · have hj0 : j = 0 := by
          have := (List.getElem?_eq_some_iff.1 hj).1
          simp [rowOf] at this; omega
        subst hj0
        simp only [rowOf, List.getElem?_cons_zero, Option.some.injEq] at hj
        subst hj
        have hi' : (β 0 0).2.1 + i < cur.size := by omega
        rw [show i * 1 + 0 = i by omega]
        unfold putCells
        rw [Array.getElem?_mapIdx, Array.getElem?_eq_getElem hi', Option.map_some, if_pos ⟨by omega, by simp [hlen]; omega⟩, hce]
        simp [getD_at (show i < (srt zs).length by omega), show i < (srt zs).length by omega]
end Go.X


namespace Go.X
set_option linter.unusedSectionVars false
section
variable {α : Type} [Inhabited α] (id : α → Nat) (ck : α → Ck)
variable {id ck}
/-! ### Members that are named by their place in a list -/
end
section
variable {α : Type} [Inhabited α]
variable {ck : α → Ck}
end
end Go.X


namespace Go.Proofs.Ytofcadbfjbefkaa
open Go.X
set_option maxRecDepth 100000
def tb : Tb := [
  (3, ⟨1, 8, .int .i64, [.i .i64 0], true, []⟩),
  (4, ⟨1, 1, .bool, [.ff], true, []⟩),
  (5, ⟨1, 1, .int .u8, [.i .u8 0], true, []⟩),
  (9, ⟨1, 16, .str, [.s ⟨#[]⟩], true, []⟩),
  (22, ⟨2, 2, .array 2 4, [.ff, .ff], true, [.bool, .bool]⟩),
  (24, ⟨3, 3, .struct [(0, 22, 2), (2, 4, 1)], [.ff, .ff, .ff], true, []⟩),
  (26, ⟨7, 40, .struct [(0, 4, 1), (1, 4, 1), (2, 4, 1), (3, 3, 1), (4, 3, 1), (5, 3, 1), (6, 3, 1)], [.ff, .ff, .ff, .i .i64 0, .i .i64 0, .i .i64 0, .i .i64 0], true, [.bool, .bool, .bool, .int .i64, .int .i64, .int .i64, .int .i64]⟩),
  (27, ⟨1, 8, .ptr, [.nilp], true, []⟩),
  (28, ⟨1, 8, .int .i64, [.i .i64 0], true, []⟩),
  (34, ⟨1, 24, .slice 40, [.nils], true, []⟩),
  (38, ⟨1, 24, .slice 3, [.nils], true, []⟩),
  (40, ⟨11, 112, .struct [(0, 3, 1), (1, 3, 1), (2, 3, 1), (3, 3, 1), (4, 3, 1), (5, 3, 1), (6, 3, 1), (7, 3, 1), (8, 3, 1), (9, 38, 1), (10, 9, 1)], [.i .i64 0, .i .i64 0, .i .i64 0, .i .i64 0, .i .i64 0, .i .i64 0, .i .i64 0, .i .i64 0, .i .i64 0, .nils, .s ⟨#[]⟩], true, []⟩),
  (42, ⟨1, 24, .slice 45, [.nils], true, []⟩),
  (45, ⟨1, 4, .int .u32, [.i .u32 0], true, []⟩),
  (48, ⟨1, 24, .slice 61, [.nils], true, []⟩),
  (54, ⟨1, 8, .ptr, [.nilp], true, []⟩),
  (57, ⟨1, 8, .map 3 68, [.nilm], true, []⟩),
  (59, ⟨12, 80, .struct [(0, 3, 1), (1, 3, 1), (2, 3, 1), (3, 26, 7), (10, 54, 1), (11, 57, 1)], [.i .i64 0, .i .i64 0, .i .i64 0, .ff, .ff, .ff, .i .i64 0, .i .i64 0, .i .i64 0, .i .i64 0, .nilp, .nilm], true, []⟩),
  (61, ⟨4, 40, .struct [(0, 3, 1), (1, 3, 1), (2, 3, 1), (3, 9, 1)], [.i .i64 0, .i .i64 0, .i .i64 0, .s ⟨#[]⟩], true, [.int .i64, .int .i64, .int .i64, .str]⟩),
  (68, ⟨1, 8, .ptr, [.nilp], true, []⟩),
  (70, ⟨9, 88, .struct [(0, 3, 1), (1, 3, 1), (2, 4, 1), (3, 3, 1), (4, 3, 1), (5, 3, 1), (6, 38, 1), (7, 4, 1), (8, 3, 1)], [.i .i64 0, .i .i64 0, .ff, .i .i64 0, .i .i64 0, .i .i64 0, .nils, .ff, .i .i64 0], true, []⟩),
  (72, ⟨1, 24, .slice 68, [.nils], true, []⟩),
  (78, ⟨8, 64, .struct [(0, 26, 7), (7, 48, 1)], [.ff, .ff, .ff, .i .i64 0, .i .i64 0, .i .i64 0, .i .i64 0, .nils], true, []⟩),
  (92, ⟨5, 5, .struct [(0, 4, 1), (1, 4, 1), (2, 4, 1), (3, 4, 1), (4, 4, 1)], [.ff, .ff, .ff, .ff, .ff], true, [.bool, .bool, .bool, .bool, .bool]⟩),
  (103, ⟨1, 8, .int .u64, [.i .u64 0], true, []⟩),
  (108, ⟨1, 24, .slice 9, [.nils], true, []⟩),
  (110, ⟨1, 8, .int .i64, [.i .i64 0], true, []⟩),
  (118, ⟨1, 8, .int .u64, [.i .u64 0], true, []⟩)]
theorem tbv : Valid tb Try.prog := Valid.mk (by kernel_rfl)
theorem mixed : Try.prog.follows .mixedOrders = true := by kernel_rfl
end Go.Proofs.Ytofcadbfjbefkaa


namespace Go.Proofs.Ytofcadbfjbefkaa
open Go.X
set_option linter.unusedSimpArgs false
set_option linter.unusedVariables false
structure Smp where
  (w q t : Int) (p : ByteArray)
deriving Inhabited, DecidableEq
structure Qos where
  (rel dur keep : Bool) (depth dead life lease : Int)
def encS (x : Smp) : List C := [.i .i64 x.w, .i .i64 x.q, .i .i64 x.t, .s x.p]
def encQ (q : Qos) : List C := [.b q.rel, .b q.dur, .b q.keep, .i .i64 q.depth, .i .i64 q.dead, .i .i64 q.life, .i .i64 q.lease]
def rowOf {α : Type} [Inhabited α] (enc : α → List C) (l : List α) : Nat → List C := fun i => enc (l.getD i default)

def findI (l : List Smp) (w q : Int) : Int := match l.findIdx? (fun x => x.w == w && x.q == q) with | some i => i | none => -1

theorem getD_lt {α : Type} [Inhabited α] {l : List α} {k : Nat} (h : k < l.length) : l.getD k default = l[k] := by
  simp [List.getD, List.getElem?_eq_getElem h]

theorem findI_some {l : List Smp} {w q : Int} {k : Nat} (hk : k < l.length) (h1 : (l.getD k default).w = w) (h2 : (l.getD k default).q = q)
    (h : ∀ j, j < k → ¬ ((l.getD j default).w = w ∧ (l.getD j default).q = q)) : findI l w q = k := by
  rw [getD_lt hk] at h1 h2
  unfold findI
  rw [show l.findIdx? (fun x => x.w == w && x.q == q) = some k from List.findIdx?_eq_some_iff_getElem.2 ⟨hk, by simp [h1, h2], fun j hj => by
    have := h j hj
    rw [getD_lt (Nat.lt_trans hj hk)] at this
    simpa using this⟩]

theorem findI_none {l : List Smp} {w q : Int} (h : ∀ j, j < l.length → ¬ ((l.getD j default).w = w ∧ (l.getD j default).q = q)) : findI l w q = -1 := by
  unfold findI
  rw [show l.findIdx? (fun x => x.w == w && x.q == q) = none from List.findIdx?_eq_none_iff.2 fun x hx => by
    obtain ⟨j, hj, rfl⟩ := List.getElem_of_mem hx
    have := h j hj
    rw [getD_lt hj] at this
    simpa using this]

abbrev hist (f : Nat) (q : Qos) (n c : Nat) : Ck := .cells true [.b q.rel, .b q.dur, .b q.keep, .i .i64 q.depth, .i .i64 q.dead, .i .i64 q.life, .i .i64 q.lease, .sl f 0 4 0 n c]
abbrev smps (w : Bool) (l : List Smp) (c : Nat) : Ck := .row w false 61 4 l.length c (rowOf encS l)

end Go.Proofs.Ytofcadbfjbefkaa

namespace Go.Proofs.Ytofcadbfjbefkaa
open Go.X
set_option linter.unusedSimpArgs false
set_option linter.unusedVariables false

theorem getD_erase (l : List Smp) (k i : Nat) : (l.eraseIdx k).getD i default = if i < k then l.getD i default else l.getD (i + 1) default := by
  simp only [List.getD, List.getElem?_eraseIdx]
  split <;> rfl

theorem erase_len {l : List Smp} {k : Nat} (hk : k < l.length) : (l.eraseIdx k).length = l.length - 1 := List.length_eraseIdx_of_lt hk

end Go.Proofs.Ytofcadbfjbefkaa

namespace Go.Proofs.Ytofcadbfjbefkaa
open Go.X
set_option linter.unusedSimpArgs false
set_option linter.unusedVariables false

set_option maxRecDepth 10000 in
theorem cfind1 (x : Smp) (w q : Int) : Ctr Try.prog 52 [.a (encS x), .c (.p 0 0 0), .c (.p 1 0 0)] [.one (.cells true [.i .i64 w]), .one (.cells true [.i .i64 q])]
      fun v h => v = .c (.b (decide (x.w = w ∧ x.q = q))) ∧ h = [.one (.cells true [.i .i64 w]), .one (.cells true [.i .i64 q])] := by
  refine Ctr.mk' tbv mixed Try.func52 rfl rfl rfl (fun _ _ => by kernel_rfl) (by kernel_rfl) (by rfl) (by rfl) (by (repeat' first | refine And.intro ?_ ?_ | exact xeC | fail)) ?_
  repeat' (first | (fail_if_success (with_reducible refine xstp ?_)); first | ((with_reducible refine And.intro (fun (hb : _ = true) => ?_) (fun (hb : _ = false) => ?_)) <;> replace hb := xnC hb <;> (try first | exact xfC | exact bff hb (by assumption) | exact bff (by assumption) hb)) | (with_reducible intro hc; (try simp only [capsP, and_true] at hc); (try exact xfC)) | ((fail_if_success (with_reducible first | refine xgon ?_ | intro _)); (conv => whnf); (fail_if_success (fail_if_success (with_reducible first | refine xstp ?_ | refine xgon ?_ | intro _)))))
  · refine FinK.mk ⟨[0, 1], _, _, ⟨rfl, rfl⟩, ?_⟩; (repeat' first | refine And.intro ?_ ?_ | exact xeC | fail)
    exact decide_eq_decide.2 ⟨fun h => ⟨‹_›, h⟩, fun h => h.2⟩
  · refine FinK.mk ⟨[0, 1], _, _, ⟨rfl, rfl⟩, ?_⟩; (repeat' first | refine And.intro ?_ ?_ | exact xeC | fail)
    exact decide_eq_false (fun h => ‹¬ _› h.1)

set_option maxRecDepth 10000 in
theorem rIndexFunc (wa : Bool) (l : List Smp) (c : Nat) (w q : Int) (hl : l.length ≤ 1000000) :
    Ctr Try.prog 51 [.c (.sl 0 0 4 0 l.length c), .c (.fn 52 [(1, 0, 0), (2, 0, 0)])] [.one (smps wa l c), .one (.cells true [.i .i64 w]), .one (.cells true [.i .i64 q])]
      fun v h => v = .c (.i .i64 (findI l w q)) ∧ h = [.one (smps wa l c), .one (.cells true [.i .i64 w]), .one (.cells true [.i .i64 q])] := by
  refine Ctr.mk' tbv mixed Try.func51 rfl rfl rfl (fun _ _ => by kernel_rfl) (by kernel_rfl) (by rfl) (by rfl) (by (repeat' first | refine And.intro ?_ ?_ | exact xeC | fail)) ?_
  repeat' (first | (fail_if_success (with_reducible refine xstp ?_)); first | (with_reducible intro hc; (try simp only [capsP, and_true] at hc); (try exact xfC)) | ((fail_if_success (with_reducible first | refine xgon ?_ | intro _)); (conv => whnf); (fail_if_success (fail_if_success (with_reducible first | refine xstp ?_ | refine xgon ?_ | intro _)))))
  refine LoopK.mk' {k : Nat // k ≤ l.length ∧ ∀ j, j < k → ¬ ((l.getD j default).w = w ∧ (l.getD j default).q = q)}
    (fun ⟨k, _⟩ => ⟨[(0, .c (.sl 0 0 4 0 l.length c)), (1, .c (.fn 52 [(1, 0, 0), (2, 0, 0)])), (7, .c (.i .i64 l.length)), (8, .c (.i .i64 k))], [.one (smps wa l c), .one (.cells true [.i .i64 w]), .one (.cells true [.i .i64 q])]⟩) (fun k => l.length - k.1)
    ⟨⟨0, Nat.zero_le _, fun j hj => by omega⟩, [0, 1, 2], ?_⟩ ?_
  · (repeat' first | refine And.intro ?_ ?_ | exact xeC | fail)
  rintro ⟨k, hk, hno⟩
  repeat' (first | (fail_if_success (with_reducible refine xstp ?_)); first | ((with_reducible refine And.intro (fun (hb : _ = true) => ?_) (fun (hb : _ = false) => ?_)) <;> replace hb := xnC hb <;> (try first | exact xfC | exact bff hb (by assumption) | exact bff (by assumption) hb)) | ((with_reducible refine And.intro ?_ ?_); focus exact xoC) | (with_reducible intro hc; (try simp only [capsP, and_true] at hc); (try exact xfC)) | ((fail_if_success (with_reducible first | refine xgon ?_ | intro _)); (conv => whnf); (fail_if_success (fail_if_success (with_reducible first | refine xstp ?_ | refine xgon ?_ | intro _)))))
  · refine xcal (σ := [.whole 1, .whole 2]) (nl := []) (cfind1 (l.getD k default) w q) ?_
    rintro v h' ⟨rfl, rfl⟩ hcaps
    repeat' (first | (fail_if_success (with_reducible refine xstp ?_)); first | ((with_reducible refine And.intro (fun (hb : _ = true) => ?_) (fun (hb : _ = false) => ?_)) <;> replace hb := xnC hb <;> (try first | exact xfC | exact bff hb (by assumption) | exact bff (by assumption) hb)) | ((with_reducible refine And.intro ?_ ?_); focus exact xoC) | ((fail_if_success (with_reducible first | refine xgon ?_ | intro _)); (conv => whnf); (fail_if_success (fail_if_success (with_reducible first | refine xstp ?_ | refine xgon ?_ | intro _)))))
    · refine FinK.mk ⟨[0, 1, 2], _, _, ⟨rfl, rfl⟩, ?_⟩; (repeat' first | refine And.intro ?_ ?_ | exact xeC | fail)
      rw [findI_some (by omega) hb.1 hb.2 hno]
    · refine ⟨⟨k + 1, by omega, fun j hj => ?_⟩, [0, 1, 2], by simp only; omega, ?_⟩
      · rcases Nat.lt_or_eq_of_le (Nat.le_of_lt_succ hj) with h | h
        · exact hno j h
        · subst h; exact hb
      · (repeat' first | refine And.intro ?_ ?_ | exact xeC | fail)
  · refine FinK.mk ⟨[0, 1, 2], _, _, ⟨rfl, rfl⟩, ?_⟩; (repeat' first | refine And.intro ?_ ?_ | exact xeC | fail)
    rw [findI_none (fun j hj => hno j (by omega))]

set_option maxRecDepth 10000 in
theorem ifind (q : Qos) (l : List Smp) (c : Nat) (w sq : Int) (hl : l.length ≤ 1000000) :
    Ctr Try.prog 35 [.c (.p 0 0 0), .c (.i .i64 w), .c (.i .i64 sq)] [.one (hist 1 q l.length c), .one (smps true l c)]
      fun v h => v = .c (.i .i64 (findI l w sq)) ∧ h = [.one (hist 1 q l.length c), .one (smps true l c)] := by
  refine Ctr.mk' tbv mixed Try.func35 rfl rfl rfl (fun _ _ => by kernel_rfl) (by kernel_rfl) (by rfl) (by rfl) (by (repeat' first | refine And.intro ?_ ?_ | exact xeC | fail)) ?_
  repeat' (first | (fail_if_success (with_reducible refine xstp ?_)); first | (with_reducible intro hc; (try simp only [capsP, and_true] at hc); (try exact xfC)) | ((fail_if_success (with_reducible first | refine xgon ?_ | intro _)); (conv => whnf); (fail_if_success (fail_if_success (with_reducible first | refine xstp ?_ | refine xgon ?_ | intro _)))))
  refine xcal (σ := [.whole 1, .whole 2, .whole 3]) (nl := []) (rIndexFunc true l c w sq hl) ?_
  rintro v h' ⟨rfl, rfl⟩ hcaps
  repeat' (first | (fail_if_success (with_reducible refine xstp ?_)); first | ((fail_if_success (with_reducible first | refine xgon ?_ | intro _)); (conv => whnf); (fail_if_success (fail_if_success (with_reducible first | refine xstp ?_ | refine xgon ?_ | intro _)))))
  refine FinK.mk ⟨[0, 1], _, _, ⟨rfl, rfl⟩, ?_⟩; (repeat' first | refine And.intro ?_ ?_ | exact xeC | fail)
end Go.Proofs.Ytofcadbfjbefkaa


namespace Go.Proofs.Ytofcadbfjbefkaa
open Go.X
set_option linter.unusedSimpArgs false
set_option linter.unusedVariables false

def okT (n : Int) : Prop := 0 ≤ n ∧ n ≤ 1099511627776
instance (n : Int) : Decidable (okT n) := by unfold okT; infer_instance
def okQ (q : Qos) : Prop := okT q.dead ∧ okT q.life ∧ okT q.lease ∧ (q.keep = true → q.depth = 0) ∧ (q.keep = false → 1 ≤ q.depth ∧ q.depth ≤ 64)
instance (q : Qos) : Decidable (okQ q) := by unfold okQ; infer_instance
def checkI (q : Qos) : Int := if okQ q then 0 else 4
theorem check_ok {q : Qos} (h : okQ q) : 0 = checkI q := by unfold checkI; rw [if_pos h]
theorem check_no {q : Qos} (h : ¬ okQ q) : 4 = checkI q := by unfold checkI; rw [if_neg h]

theorem three {a b c : Int} {P : Int → Prop} (h : ∀ j, j < 3 → P ([a, b, c].getD j 0)) : P a ∧ P b ∧ P c := ⟨h 0 (by omega), h 1 (by omega), h 2 (by omega)⟩
theorem of_three {a b c : Int} {P : Int → Prop} (ha : P a) (hb : P b) (hc : P c) {j : Nat} (hj : j < 3) : P ([a, b, c].getD j 0) := by
  match j, hj with
  | 0, _ => exact ha
  | 1, _ => exact hb
  | 2, _ => exact hc

set_option maxRecDepth 10000 in
set_option maxHeartbeats 2000000 in
theorem icheck (q : Qos) : Ctr Try.prog 23 [.a (encQ q)] [] fun v h => v = .c (.i .i64 (checkI q)) ∧ h = [] := by
  refine Ctr.mk' tbv mixed Try.func23 rfl rfl rfl (fun _ _ => by kernel_rfl) (by kernel_rfl) (by rfl) (by rfl) (by (repeat' first | refine And.intro ?_ ?_ | exact xeC | fail)) ?_
  repeat' (first | (fail_if_success (with_reducible refine xstp ?_)); first | (with_reducible intro hc; (try simp only [capsP, and_true] at hc); (try exact xfC)) | ((fail_if_success (with_reducible first | refine xgon ?_ | intro _)); (conv => whnf); (fail_if_success (fail_if_success (with_reducible first | refine xstp ?_ | refine xgon ?_ | intro _)))))
  refine LoopK.mk' {k : Nat // k ≤ 3 ∧ ∀ j, j < k → okT ([q.dead, q.life, q.lease].getD j 0)}
    (fun ⟨k, _⟩ => ⟨[(1, .c (.p 0 0 0)), (11, .c (.sl 1 0 1 0 3 3)), (12, .c (.i .i64 3)), (13, .c (.i .i64 k))], [.one (.cells true (encQ q)), .one (.row true false 3 1 3 3 (fun i => [.i .i64 ([q.dead, q.life, q.lease].getD i 0)]))]⟩) (fun k => 3 - k.1)
    ⟨⟨0, by omega, fun j hj => by omega⟩, [0, 1], ?_⟩ ?_
  · (repeat' first | refine And.intro ?_ ?_ | exact xeC | fail)
    intro i hi
    match i, hi with
    | 0, _ => rfl
    | 1, _ => rfl
    | 2, _ => rfl
  rintro ⟨k, hk, hno⟩
  repeat' (first | (fail_if_success (with_reducible refine xstp ?_)); first | ((with_reducible refine And.intro (fun (hb : _ = true) => ?_) (fun (hb : _ = false) => ?_)) <;> replace hb := xnC hb <;> (try first | exact xfC | exact bff hb (by assumption) | exact bff (by assumption) hb)) | ((with_reducible refine And.intro ?_ ?_); focus exact xoC) | (with_reducible intro hc; (try simp only [capsP, and_true] at hc); (try exact xfC)) | ((fail_if_success (with_reducible first | refine xgon ?_ | intro _)); (conv => whnf); (fail_if_success (fail_if_success (with_reducible first | refine xstp ?_ | refine xgon ?_ | intro _)))))
  · refine FinK.mk ⟨[], _, _, ⟨rfl, rfl⟩, ?_⟩; (repeat' first | refine And.intro ?_ ?_ | exact xeC | fail)
    refine check_no fun h => ?_
    have := of_three (P := okT) h.1 h.2.1 h.2.2.1 (j := k) (by omega)
    unfold okT at this
    omega
  · refine FinK.mk ⟨[], _, _, ⟨rfl, rfl⟩, ?_⟩; (repeat' first | refine And.intro ?_ ?_ | exact xeC | fail)
    refine check_no fun h => ?_
    have := of_three (P := okT) h.1 h.2.1 h.2.2.1 (j := k) (by omega)
    unfold okT at this
    omega
  · refine ⟨⟨k + 1, by omega, fun j hj => ?_⟩, [0, 1], by simp only; omega, ?_⟩
    · rcases Nat.lt_or_eq_of_le (Nat.le_of_lt_succ hj) with h | h
      · exact hno j h
      · subst h; exact ⟨‹_›, ‹_›⟩
    · (repeat' first | refine And.intro ?_ ?_ | exact xeC | fail)
  all_goals (obtain ⟨h1, h2, h3⟩ := three (P := okT) (fun j hj => hno j (by omega)))
  all_goals (refine FinK.mk ⟨[], _, _, ⟨rfl, rfl⟩, ?_⟩; (repeat' first | refine And.intro ?_ ?_ | exact xeC | fail))
  all_goals first
    | exact check_no fun h => ‹¬ _› h.2.2.1
    | (refine check_no fun h => ?_; obtain ⟨_, _, _, h4, h5⟩ := h; simp_all; done)
    | (refine check_no fun h => ?_; obtain ⟨_, _, _, h4, h5⟩ := h; simp_all; omega)
    | (refine check_ok ?_; unfold okQ okT at *; simp_all; done)
    | (refine check_ok ?_; unfold okQ okT at *; simp_all; omega)
end Go.Proofs.Ytofcadbfjbefkaa


namespace Go.Proofs.Ytofcadbfjbefkaa
open Go.X
set_option linter.unusedSimpArgs false
set_option linter.unusedVariables false

def cnt (l : List Smp) (w : Int) : Nat := (l.filter fun x => x.w == w).length
def fstI (l : List Smp) (w : Int) : Int := match l.findIdx? (fun x => x.w == w) with | some i => i | none => -1
def oldI (q : Qos) (l : List Smp) (w : Int) : Int := if q.keep = true then -1 else if (cnt l w : Int) < q.depth then -1 else fstI l w
theorem take_snoc {l : List Smp} {k : Nat} (hk : k < l.length) : l.take (k + 1) = l.take k ++ [l.getD k default] := by
  rw [getD_lt hk, List.take_append_getElem]
theorem cnt_yes {l : List Smp} {k : Nat} {w : Int} (hk : k < l.length) (h : (l.getD k default).w = w) : cnt (l.take (k + 1)) w = cnt (l.take k) w + 1 := by
  unfold cnt
  rw [take_snoc hk, List.filter_append, List.length_append]
  generalize l.getD k default = x at *
  simp [h]
theorem cnt_no {l : List Smp} {k : Nat} {w : Int} (hk : k < l.length) (h : ¬ (l.getD k default).w = w) : cnt (l.take (k + 1)) w = cnt (l.take k) w := by
  unfold cnt
  rw [take_snoc hk, List.filter_append, List.length_append]
  generalize l.getD k default = x at *
  simp [h]
theorem fst_no {l : List Smp} {k : Nat} {w : Int} (hk : k < l.length) (h : ¬ (l.getD k default).w = w) : fstI (l.take (k + 1)) w = fstI (l.take k) w := by
  unfold fstI
  rw [take_snoc hk, List.findIdx?_append]
  generalize l.getD k default = x at *
  generalize l.take k = m at *
  simp [h]
theorem fst_old {l : List Smp} {k : Nat} {w : Int} (hk : k < l.length) (h : 0 ≤ fstI (l.take k) w) : fstI (l.take (k + 1)) w = fstI (l.take k) w := by
  unfold fstI at *
  rw [take_snoc hk, List.findIdx?_append]
  generalize l.getD k default = x at *
  generalize l.take k = m at *
  cases hf : m.findIdx? (fun x => x.w == w) with
  | some i => simp
  | none => rw [hf] at h; simp at h
theorem fst_new {l : List Smp} {k : Nat} {w : Int} (hk : k < l.length) (h : (l.getD k default).w = w) (h0 : fstI (l.take k) w < 0) : fstI (l.take (k + 1)) w = k := by
  unfold fstI at *
  rw [take_snoc hk, List.findIdx?_append]
  have hm : (l.take k).length = k := by rw [List.length_take]; omega
  generalize l.getD k default = x at *
  generalize l.take k = m at *
  cases hf : m.findIdx? (fun x => x.w == w) with
  | some i => rw [hf] at h0; simp only at h0; omega
  | none => simp [h, List.findIdx?_cons, hm]
theorem cnt_le (l : List Smp) (w : Int) (k : Nat) : cnt (l.take k) w ≤ l.length := by
  unfold cnt
  exact Nat.le_trans (List.length_filter_le _ _) (by rw [List.length_take]; omega)

set_option maxRecDepth 10000 in
theorem iclone (wa : Bool) (l : List Smp) (c : Nat) (hl : l.length ≤ 1000000) :
    Ctr Try.prog 32 [.c (.sl 0 0 4 0 l.length c)] [.one (smps wa l c)]
      fun v h => ∃ c', v = .c (.sl 1 0 4 0 l.length c') ∧ h = [.one (smps wa l c), .one (smps true l c')] := by
  refine Ctr.mk' tbv mixed Try.func32 rfl rfl rfl (fun _ _ => by kernel_rfl) (by kernel_rfl) (by rfl) (by rfl) (by (repeat' first | refine And.intro ?_ ?_ | exact xeC | fail)) ?_
  repeat' (first | (fail_if_success (with_reducible refine xstp ?_)); first | ((with_reducible refine And.intro (fun (hb : _ = true) => ?_) (fun (hb : _ = false) => ?_)) <;> replace hb := xnC hb <;> (try first | exact xfC | exact bff hb (by assumption) | exact bff (by assumption) hb)) | ((with_reducible refine And.intro ?_ ?_); focus exact xoC) | ((with_reducible refine Or.inl ⟨?_, ?_, ?_⟩); (focus rfl); focus exact xaC) | (with_reducible intro hc; (try simp only [capsP, and_true] at hc); (try exact xfC)) | ((fail_if_success (with_reducible first | refine xgon ?_ | intro _)); (conv => whnf); (fail_if_success (fail_if_success (with_reducible first | refine xstp ?_ | refine xgon ?_ | intro _)))))
  · have h0 : c = 0 := ‹_ → c = 0› ‹_›
    have : l = [] := List.eq_nil_of_length_eq_zero (by omega)
    subst this
    refine FinK.mk ⟨[0, 7], _, _, ⟨0, rfl, rfl⟩, ?_⟩
    (repeat' first | refine And.intro ?_ ?_ | exact xeC | fail)
    all_goals skip
  · rename_i c2
    refine FinK.mk ⟨[0, 2], _, _, ⟨c2, rfl, rfl⟩, ?_⟩
    (repeat' first | refine And.intro ?_ ?_ | exact xeC | fail)
    · omega
    · intro i hi
      unfold appF
      rw [if_neg (by omega)]
      simp
end Go.Proofs.Ytofcadbfjbefkaa


namespace Go.Proofs.Ytofcadbfjbefkaa
open Go.X
set_option linter.unusedSimpArgs false
set_option linter.unusedVariables false

set_option maxRecDepth 10000 in
theorem ioldest (q : Qos) (l : List Smp) (c : Nat) (w : Int) (hl : l.length ≤ 1000000) :
    Ctr Try.prog 36 [.c (.p 0 0 0), .c (.i .i64 w)] [.one (hist 1 q l.length c), .one (smps true l c)]
      fun v h => v = .c (.i .i64 (oldI q l w)) ∧ h = [.one (hist 1 q l.length c), .one (smps true l c)] := by
  refine Ctr.mk' tbv mixed Try.func36 rfl rfl rfl (fun _ _ => by kernel_rfl) (by kernel_rfl) (by rfl) (by rfl) (by (repeat' first | refine And.intro ?_ ?_ | exact xeC | fail)) ?_
  repeat' (first | (fail_if_success (with_reducible refine xstp ?_)); first | ((with_reducible refine And.intro (fun (hb : _ = true) => ?_) (fun (hb : _ = false) => ?_)) <;> replace hb := xnC hb <;> (try first | exact xfC | exact bff hb (by assumption) | exact bff (by assumption) hb)) | (with_reducible intro hc; (try simp only [capsP, and_true] at hc); (try exact xfC)) | ((fail_if_success (with_reducible first | refine xgon ?_ | intro _)); (conv => whnf); (fail_if_success (fail_if_success (with_reducible first | refine xstp ?_ | refine xgon ?_ | intro _)))))
  · refine FinK.mk ⟨[0, 1], _, _, ⟨rfl, rfl⟩, ?_⟩; (repeat' first | refine And.intro ?_ ?_ | exact xeC | fail)
    unfold oldI
    rw [if_pos ‹_›]
  refine LoopK.mk' {k : Nat // k ≤ l.length}
    (fun ⟨k, _⟩ => ⟨[(0, .c (.p 0 0 0)), (1, .c (.i .i64 w)), (5, .c (.i .i64 (fstI (l.take k) w))), (6, .c (.i .i64 (cnt (l.take k) w))), (17, .c (.sl 1 0 4 0 l.length c)), (18, .c (.i .i64 l.length)), (19, .c (.i .i64 k))], [.one (hist 1 q l.length c), .one (smps true l c)]⟩) (fun k => l.length - k.1)
    ⟨⟨0, Nat.zero_le _⟩, [0, 1], ?_⟩ ?_
  · (repeat' first | refine And.intro ?_ ?_ | exact xeC | fail)
  rintro ⟨k, hk⟩
  have hcn := cnt_le l w k
  repeat' (first | (fail_if_success (with_reducible refine xstp ?_)); first | ((with_reducible refine And.intro (fun (hb : _ = true) => ?_) (fun (hb : _ = false) => ?_)) <;> replace hb := xnC hb <;> (try first | exact xfC | exact bff hb (by assumption) | exact bff (by assumption) hb)) | ((with_reducible refine And.intro ?_ ?_); focus exact xoC) | (with_reducible intro hc; (try simp only [capsP, and_true] at hc); (try exact xfC)) | ((fail_if_success (with_reducible first | refine xgon ?_ | intro _)); (conv => whnf); (fail_if_success (fail_if_success (with_reducible first | refine xstp ?_ | refine xgon ?_ | intro _)))))
  · have h := ‹¬ _›
    refine ⟨⟨k + 1, by omega⟩, [0, 1], by simp only; omega, ?_⟩
    (repeat' first | refine And.intro ?_ ?_ | exact xeC | fail)
    · exact (fst_no (by omega) h).symm
    · rw [cnt_no (by omega) h]
  · have h := ‹(l.getD k default).w = w›
    refine ⟨⟨k + 1, by omega⟩, [0, 1], by simp only; omega, ?_⟩
    (repeat' first | refine And.intro ?_ ?_ | exact xeC | fail)
    · exact (fst_new (by omega) h ‹_›).symm
    · rw [cnt_yes (by omega) h]; rfl
  · have h := ‹(l.getD k default).w = w›
    refine ⟨⟨k + 1, by omega⟩, [0, 1], by simp only; omega, ?_⟩
    (repeat' first | refine And.intro ?_ ?_ | exact xeC | fail)
    · exact (fst_old (by omega) ‹_›).symm
    · rw [cnt_yes (by omega) h]; rfl
  · have hkl : k = l.length := by omega
    subst hkl
    rw [List.take_length] at *
    refine FinK.mk ⟨[0, 1], _, _, ⟨rfl, rfl⟩, ?_⟩; (repeat' first | refine And.intro ?_ ?_ | exact xeC | fail)
    unfold oldI
    rw [if_neg (by simp [*]), if_pos ‹_›]
  · have hkl : k = l.length := by omega
    subst hkl
    rw [List.take_length] at *
    refine FinK.mk ⟨[0, 1], _, _, ⟨rfl, rfl⟩, ?_⟩; (repeat' first | refine And.intro ?_ ?_ | exact xeC | fail)
    unfold oldI
    rw [if_neg (by simp [*]), if_neg (by omega)]

set_option maxRecDepth 10000 in
theorem idelete (l : List Smp) (c k : Nat) (hk : k < l.length) (hl : l.length ≤ 1000000) :
    Ctr Try.prog 37 [.c (.sl 0 0 4 0 l.length c), .c (.i .i64 k), .c (.i .i64 (k + 1))] [.one (smps true l c)]
      fun v h => v = .c (.sl 0 0 4 0 (l.eraseIdx k).length c) ∧ h = [.one (smps true (l.eraseIdx k) c)] := by
  refine Ctr.mk' tbv mixed Try.func37 rfl rfl rfl (fun _ _ => by kernel_rfl) (by kernel_rfl) (by rfl) (by rfl) (by (repeat' first | refine And.intro ?_ ?_ | exact xeC | fail)) ?_
  repeat' (first | (fail_if_success (with_reducible refine xstp ?_)); first | ((with_reducible refine And.intro (fun (hb : _ = true) => ?_) (fun (hb : _ = false) => ?_)) <;> replace hb := xnC hb <;> (try first | exact xfC | exact bff hb (by assumption) | exact bff (by assumption) hb)) | ((with_reducible refine And.intro ?_ ?_); focus exact xoC) | ((with_reducible refine xwD ?_ ?_); focus exact xaC) | (with_reducible intro hc; (try simp only [capsP, and_true] at hc); (try exact xfC)) | ((fail_if_success (with_reducible first | refine xgon ?_ | intro _)); (conv => whnf); (fail_if_success (fail_if_success (with_reducible first | refine xstp ?_ | refine xgon ?_ | intro _)))))
  refine FinK.mk ⟨[0], _, _, ⟨rfl, rfl⟩, ?_⟩; (repeat' first | refine And.intro ?_ ?_ | exact xeC | fail)
  all_goals (try rw [erase_len hk])
  all_goals (try omega)
  intro i hi
  unfold clrF splF rowOf
  rw [getD_erase, if_neg (by split <;> omega)]
  by_cases h : i < k
  · rw [if_pos (by omega), if_pos h]
  · rw [if_neg (by omega), if_neg h, if_pos (by omega)]
    congr 2
    split <;> omega
end Go.Proofs.Ytofcadbfjbefkaa


namespace Go.Proofs.Ytofcadbfjbefkaa
open Go.X
set_option linter.unusedSimpArgs false
set_option linter.unusedVariables false

set_option maxRecDepth 10000 in
theorem ilist (q : Qos) (l : List Smp) (c : Nat) (hl : l.length ≤ 1000000) : Ctr Try.prog 19 [.c (.p 0 0 0)] [.one (hist 1 q l.length c), .one (smps true l c)]
      fun v h => ∃ c', v = .c (.sl 2 0 4 0 l.length c') ∧ h = [.one (hist 1 q l.length c), .one (smps true l c), .one (smps true l c')] := by
  refine Ctr.mk' tbv mixed Try.func19 rfl rfl rfl (fun _ _ => by kernel_rfl) (by kernel_rfl) (by rfl) (by rfl) (by (repeat' first | refine And.intro ?_ ?_ | exact xeC | fail)) ?_
  repeat' (first | (fail_if_success (with_reducible refine xstp ?_)); first | (with_reducible intro hc; (try simp only [capsP, and_true] at hc); (try exact xfC)) | ((fail_if_success (with_reducible first | refine xgon ?_ | intro _)); (conv => whnf); (fail_if_success (fail_if_success (with_reducible first | refine xstp ?_ | refine xgon ?_ | intro _)))))
  refine xcal (σ := [.whole 1]) (nl := []) (iclone true l c hl) ?_
  rintro v h' ⟨c2, rfl, rfl⟩ hcaps
  repeat' (first | (fail_if_success (with_reducible refine xstp ?_)); first | ((fail_if_success (with_reducible first | refine xgon ?_ | intro _)); (conv => whnf); (fail_if_success (fail_if_success (with_reducible first | refine xstp ?_ | refine xgon ?_ | intro _)))))
  refine FinK.mk ⟨[0, 1, 2], _, _, ⟨c2, rfl, rfl⟩, ?_⟩
  (repeat' first | refine And.intro ?_ ?_ | exact xeC | fail)

set_option maxRecDepth 10000 in
theorem inew (q : Qos) : Ctr Try.prog 18 [.a (encQ q)] []
      fun v h => (okQ q ∧ v = .t [.c (.p 0 0 0), .c (.i .i64 0)] ∧ h = [.one (hist 1 q 0 0), .one (smps true [] 0)]) ∨ (¬ okQ q ∧ v = .t [.c .nilp, .c (.i .i64 4)] ∧ h = []) := by
  refine Ctr.mk' tbv mixed Try.func18 rfl rfl rfl (fun _ _ => by kernel_rfl) (by kernel_rfl) (by rfl) (by rfl) (by (repeat' first | refine And.intro ?_ ?_ | exact xeC | fail)) ?_
  repeat' (first | (fail_if_success (with_reducible refine xstp ?_)); first | (with_reducible intro hc; (try simp only [capsP, and_true] at hc); (try exact xfC)) | ((fail_if_success (with_reducible first | refine xgon ?_ | intro _)); (conv => whnf); (fail_if_success (fail_if_success (with_reducible first | refine xstp ?_ | refine xgon ?_ | intro _)))))
  refine xcal (σ := []) (nl := []) (icheck q) ?_
  rintro v h' ⟨rfl, rfl⟩ hcaps
  repeat' (first | (fail_if_success (with_reducible refine xstp ?_)); first | ((with_reducible refine And.intro (fun (hb : _ = true) => ?_) (fun (hb : _ = false) => ?_)) <;> replace hb := xnC hb <;> (try first | exact xfC | exact bff hb (by assumption) | exact bff (by assumption) hb)) | ((fail_if_success (with_reducible first | refine xgon ?_ | intro _)); (conv => whnf); (fail_if_success (fail_if_success (with_reducible first | refine xstp ?_ | refine xgon ?_ | intro _)))))
  · have hq : ¬ okQ q := fun h => hb (by unfold checkI; rw [if_pos h])
    have e : checkI q = 4 := by unfold checkI; rw [if_neg hq]
    refine FinK.mk ⟨[], _, _, .inr ⟨hq, rfl, rfl⟩, ?_⟩
    (repeat' first | refine And.intro ?_ ?_ | exact xeC | fail)
    all_goals exact e
  · have hq : okQ q := Decidable.byContradiction fun h => by
      have e : checkI q = 4 := by unfold checkI; rw [if_neg h]
      omega
    refine FinK.mk ⟨[1, 9], _, _, .inl ⟨hq, rfl, rfl⟩, ?_⟩
    (repeat' first | refine And.intro ?_ ?_ | exact xeC | fail)

end Go.Proofs.Ytofcadbfjbefkaa

namespace Go.Proofs.Ytofcadbfjbefkaa
open Go.X
set_option linter.unusedSimpArgs false
set_option linter.unusedVariables false

def getS (l : List Smp) (w q : Int) : Smp × Bool := match l.findIdx? (fun x => x.w == w && x.q == q) with | some i => (l.getD i default, true) | none => (default, false)
theorem find_cases (l : List Smp) (w q : Int) : (∃ k : Nat, k < l.length ∧ findI l w q = k ∧ getS l w q = (l.getD k default, true)) ∨ (findI l w q = -1 ∧ getS l w q = (default, false)) := by
  unfold findI getS
  cases h : l.findIdx? (fun x => x.w == w && x.q == q) with
  | none => exact .inr ⟨rfl, rfl⟩
  | some k =>
    obtain ⟨hk, _⟩ := List.findIdx?_eq_some_iff_getElem.1 h
    exact .inl ⟨k, hk, rfl, rfl⟩

set_option maxRecDepth 10000 in
theorem iget (q : Qos) (l : List Smp) (c : Nat) (w sq : Int) (hl : l.length ≤ 1000000) :
    Ctr Try.prog 57 [.c (.p 0 0 0), .c (.i .i64 w), .c (.i .i64 sq)] [.one (hist 1 q l.length c), .one (smps true l c)]
      fun v h => v = .t [.a (encS (getS l w sq).1), .c (.b (getS l w sq).2)] ∧ h = [.one (hist 1 q l.length c), .one (smps true l c)] := by
  refine Ctr.mk' tbv mixed Try.func57 rfl rfl rfl (fun _ _ => by kernel_rfl) (by kernel_rfl) (by rfl) (by rfl) (by (repeat' first | refine And.intro ?_ ?_ | exact xeC | fail)) ?_
  repeat' (first | (fail_if_success (with_reducible refine xstp ?_)); first | (with_reducible intro hc; (try simp only [capsP, and_true] at hc); (try exact xfC)) | ((fail_if_success (with_reducible first | refine xgon ?_ | intro _)); (conv => whnf); (fail_if_success (fail_if_success (with_reducible first | refine xstp ?_ | refine xgon ?_ | intro _)))))
  refine xcal (σ := [.whole 0, .whole 1]) (nl := []) (ifind q l c w sq hl) ?_
  rintro v h' ⟨rfl, rfl⟩ hcaps
  rcases find_cases l w sq with ⟨k, hk, e, e2⟩ | ⟨e, e2⟩
  · rw [e, e2]
    repeat' (first | (fail_if_success (with_reducible refine xstp ?_)); first | ((with_reducible refine And.intro (fun (hb : _ = true) => ?_) (fun (hb : _ = false) => ?_)) <;> replace hb := xnC hb <;> (try first | exact xfC | exact bff hb (by assumption) | exact bff (by assumption) hb)) | ((with_reducible refine And.intro ?_ ?_); focus exact xoC) | ((fail_if_success (with_reducible first | refine xgon ?_ | intro _)); (conv => whnf); (fail_if_success (fail_if_success (with_reducible first | refine xstp ?_ | refine xgon ?_ | intro _)))))
    refine FinK.mk ⟨[0, 1], _, _, ⟨rfl, rfl⟩, ?_⟩; (repeat' first | refine And.intro ?_ ?_ | exact xeC | fail)
    all_goals simp only [Int.toNat_natCast, Nat.zero_add]
  · rw [e, e2]
    repeat' (first | (fail_if_success (with_reducible refine xstp ?_)); first | ((with_reducible refine And.intro (fun (hb : _ = true) => ?_) (fun (hb : _ = false) => ?_)) <;> replace hb := xnC hb <;> (try first | exact xfC | exact bff hb (by assumption) | exact bff (by assumption) hb)) | ((fail_if_success (with_reducible first | refine xgon ?_ | intro _)); (conv => whnf); (fail_if_success (fail_if_success (with_reducible first | refine xstp ?_ | refine xgon ?_ | intro _)))))
    refine FinK.mk ⟨[0, 1], _, _, ⟨rfl, rfl⟩, ?_⟩; (repeat' first | refine And.intro ?_ ?_ | exact xeC | fail)
end Go.Proofs.Ytofcadbfjbefkaa

namespace Go.Proofs.Ytofcadbfjbefkaa
open Go.X
set_option linter.unusedSimpArgs false
set_option linter.unusedVariables false

end Go.Proofs.Ytofcadbfjbefkaa

namespace Go.Proofs.Ytofcadbfjbefkaa
open Go.X
set_option linter.unusedSimpArgs false
set_option linter.unusedVariables false

def expd (q : Qos) (x : Smp) (t : Int) : Bool := decide (0 < q.life ∧ x.t + q.life ≤ t)

end Go.Proofs.Ytofcadbfjbefkaa

namespace Go.Proofs.Ytofcadbfjbefkaa
open Go.X
set_option linter.unusedSimpArgs false
set_option linter.unusedVariables false

def gone (q : Qos) (l : List Smp) (t : Int) : List Smp := l.filter fun x => expd q x t
def stay (q : Qos) (l : List Smp) (t : Int) : List Smp := l.filter fun x => !expd q x t

theorem app_row (m : List Smp) (x : Smp) (cs : Nat → List C) (hc : cs 0 = encS x) (i : Nat) (hi : i < (m ++ [x]).length) : appF m.length (rowOf encS m) 0 cs i = rowOf encS (m ++ [x]) i := by
  unfold appF rowOf
  simp only [List.length_append, List.length_singleton] at hi
  by_cases h : i < m.length
  · rw [if_pos h]
    simp only [List.getD, List.getElem?_append_left h]
  · rw [if_neg h]
    have : i = m.length := by omega
    subst this
    rw [Nat.sub_self, Nat.add_zero, hc]
    simp [List.getD]
theorem gone_yes {q : Qos} {l : List Smp} {t : Int} {k : Nat} (hk : k < l.length) (h : expd q (l.getD k default) t = true) : gone q (l.take (k + 1)) t = gone q (l.take k) t ++ [l.getD k default] ∧ stay q (l.take (k + 1)) t = stay q (l.take k) t := by
  unfold gone stay
  rw [take_snoc hk, List.filter_append, List.filter_append]
  generalize l.getD k default = x at *
  simp [h]
theorem gone_no {q : Qos} {l : List Smp} {t : Int} {k : Nat} (hk : k < l.length) (h : expd q (l.getD k default) t = false) : stay q (l.take (k + 1)) t = stay q (l.take k) t ++ [l.getD k default] ∧ gone q (l.take (k + 1)) t = gone q (l.take k) t := by
  unfold gone stay
  rw [take_snoc hk, List.filter_append, List.filter_append]
  generalize l.getD k default = x at *
  simp [h]

end Go.Proofs.Ytofcadbfjbefkaa

namespace Go.Proofs.Ytofcadbfjbefkaa
open Go.X
set_option linter.unusedSimpArgs false
set_option linter.unusedVariables false

end Go.Proofs.Ytofcadbfjbefkaa


namespace Go.Proofs.Ytofcadbfjbefkaa
open Go.X
set_option linter.unusedSimpArgs false
set_option linter.unusedVariables false

end Go.Proofs.Ytofcadbfjbefkaa

namespace Go.Proofs.Ytofcadbfjbefkaa
open Go.X
set_option linter.unusedSimpArgs false
set_option linter.unusedVariables false

def isS (w q : Int) (x : Smp) : Bool := decide (x.w = w ∧ x.q = q)
theorem filt_yes {p : Smp → Bool} {l : List Smp} {k : Nat} (hk : k < l.length) (h : p (l.getD k default) = true) : (l.take (k + 1)).filter p = (l.take k).filter p ++ [l.getD k default] := by
  rw [take_snoc hk, List.filter_append]
  generalize l.getD k default = x at *
  simp [h]
theorem filt_no {p : Smp → Bool} {l : List Smp} {k : Nat} (hk : k < l.length) (h : p (l.getD k default) = false) : (l.take (k + 1)).filter p = (l.take k).filter p := by
  rw [take_snoc hk, List.filter_append]
  generalize l.getD k default = x at *
  simp [h]

set_option maxRecDepth 10000 in
theorem cremove1 (x : Smp) (w q : Int) : Ctr Try.prog 34 [.a (encS x), .c (.p 0 0 0), .c (.p 1 0 0)] [.one (.cells true [.i .i64 w]), .one (.cells true [.i .i64 q])]
      fun v h => v = .c (.b (isS w q x)) ∧ h = [.one (.cells true [.i .i64 w]), .one (.cells true [.i .i64 q])] := by
  refine Ctr.mk' tbv mixed Try.func34 rfl rfl rfl (fun _ _ => by kernel_rfl) (by kernel_rfl) (by rfl) (by rfl) (by (repeat' first | refine And.intro ?_ ?_ | exact xeC | fail)) ?_
  repeat' (first | (fail_if_success (with_reducible refine xstp ?_)); first | ((with_reducible refine And.intro (fun (hb : _ = true) => ?_) (fun (hb : _ = false) => ?_)) <;> replace hb := xnC hb <;> (try first | exact xfC | exact bff hb (by assumption) | exact bff (by assumption) hb)) | (with_reducible intro hc; (try simp only [capsP, and_true] at hc); (try exact xfC)) | ((fail_if_success (with_reducible first | refine xgon ?_ | intro _)); (conv => whnf); (fail_if_success (fail_if_success (with_reducible first | refine xstp ?_ | refine xgon ?_ | intro _)))))
  · refine FinK.mk ⟨[0, 1], _, _, ⟨rfl, rfl⟩, ?_⟩; (repeat' first | refine And.intro ?_ ?_ | exact xeC | fail)
    exact decide_eq_decide.2 ⟨fun h => ⟨‹_›, h⟩, fun h => h.2⟩
  · refine FinK.mk ⟨[0, 1], _, _, ⟨rfl, rfl⟩, ?_⟩; (repeat' first | refine And.intro ?_ ?_ | exact xeC | fail)
    exact decide_eq_false (fun h => ‹¬ _› h.1)
end Go.Proofs.Ytofcadbfjbefkaa


namespace Go.Proofs.Ytofcadbfjbefkaa
open Go.X
set_option linter.unusedSimpArgs false
set_option linter.unusedVariables false

set_option maxRecDepth 10000 in
set_option maxHeartbeats 1000000 in
theorem isplitR (l : List Smp) (c : Nat) (w sq : Int) (hl : l.length ≤ 1000000) :
    Ctr Try.prog 33 [.c (.sl 0 0 4 0 l.length c), .c (.fn 34 [(1, 0, 0), (2, 0, 0)])] [.one (smps true l c), .one (.cells true [.i .i64 w]), .one (.cells true [.i .i64 sq])]
      fun v h => ∃ cs cg, v = .t [.c (.sl 3 0 4 0 (l.filter fun x => !isS w sq x).length cs), .c (.sl 4 0 4 0 (l.filter (isS w sq)).length cg)] ∧
        h = [.one (smps true l c), .one (.cells true [.i .i64 w]), .one (.cells true [.i .i64 sq]), .one (smps true (l.filter fun x => !isS w sq x) cs), .one (smps true (l.filter (isS w sq)) cg)] := by
  refine Ctr.mk' tbv mixed Try.func33 rfl rfl rfl (fun _ _ => by kernel_rfl) (by kernel_rfl) (by rfl) (by rfl) (by (repeat' first | refine And.intro ?_ ?_ | exact xeC | fail)) ?_
  repeat' (first | (fail_if_success (with_reducible refine xstp ?_)); first | (with_reducible intro hc; (try simp only [capsP, and_true] at hc); (try exact xfC)) | ((fail_if_success (with_reducible first | refine xgon ?_ | intro _)); (conv => whnf); (fail_if_success (fail_if_success (with_reducible first | refine xstp ?_ | refine xgon ?_ | intro _)))))
  refine LoopK.mk' {k : Nat × Nat × Nat // k.1 ≤ l.length}
    (fun ⟨(k, cs, cg), _⟩ => ⟨[(1, .c (.fn 34 [(1, 0, 0), (2, 0, 0)])), (4, .c (.sl 3 0 4 0 ((l.take k).filter fun x => !isS w sq x).length cs)), (5, .c (.sl 4 0 4 0 ((l.take k).filter (isS w sq)).length cg)), (8, .c (.sl 0 0 4 0 l.length c)), (9, .c (.i .i64 l.length)), (10, .c (.i .i64 k))],
      [.one (smps true l c), .one (.cells true [.i .i64 w]), .one (.cells true [.i .i64 sq]), .one (smps true ((l.take k).filter fun x => !isS w sq x) cs), .one (smps true ((l.take k).filter (isS w sq)) cg)]⟩) (fun k => l.length - k.1.1)
    ⟨⟨(0, 0, 0), Nat.zero_le _⟩, [0, 1, 2, 8, 9], ?_⟩ ?_
  · (repeat' first | refine And.intro ?_ ?_ | exact xeC | fail)
  rintro ⟨⟨k, cs, cg⟩, hk⟩
  have hg : ((l.take k).filter (isS w sq)).length ≤ l.length := Nat.le_trans (List.length_filter_le _ _) (by rw [List.length_take]; omega)
  have hs : ((l.take k).filter fun x => !isS w sq x).length ≤ l.length := Nat.le_trans (List.length_filter_le _ _) (by rw [List.length_take]; omega)
  repeat' (first | (fail_if_success (with_reducible refine xstp ?_)); first | ((with_reducible refine And.intro (fun (hb : _ = true) => ?_) (fun (hb : _ = false) => ?_)) <;> replace hb := xnC hb <;> (try first | exact xfC | exact bff hb (by assumption) | exact bff (by assumption) hb)) | ((with_reducible refine And.intro ?_ ?_); focus exact xoC) | (with_reducible intro hc; (try simp only [capsP, and_true] at hc); (try exact xfC)) | ((fail_if_success (with_reducible first | refine xgon ?_ | intro _)); (conv => whnf); (fail_if_success (fail_if_success (with_reducible first | refine xstp ?_ | refine xgon ?_ | intro _)))))
  · refine xcal (σ := [.whole 1, .whole 2]) (nl := []) (cremove1 (l.getD k default) w sq) ?_
    rintro v h' ⟨rfl, rfl⟩ hcaps
    repeat' (first | (fail_if_success (with_reducible refine xstp ?_)); first | ((with_reducible refine And.intro (fun (hb : _ = true) => ?_) (fun (hb : _ = false) => ?_)) <;> replace hb := xnC hb <;> (try first | exact xfC | exact bff hb (by assumption) | exact bff (by assumption) hb)) | ((with_reducible refine And.intro ?_ ?_); focus exact xoC) | ((with_reducible refine Or.inl ⟨?_, ?_, ?_⟩); (focus rfl); focus exact xaC) | (with_reducible intro hc; (try simp only [capsP, and_true] at hc); (try exact xfC)) | ((fail_if_success (with_reducible first | refine xgon ?_ | intro _)); (conv => whnf); (fail_if_success (fail_if_success (with_reducible first | refine xstp ?_ | refine xgon ?_ | intro _)))))
    · rename_i c2
      have eg := filt_yes (p := isS w sq) (show k < l.length by omega) ‹_›
      have es := filt_no (p := fun x => !isS w sq x) (show k < l.length by omega) (by simp only [‹isS w sq _ = true›, Bool.not_true])
      refine ⟨⟨(k + 1, cs, c2), by simp only; omega⟩, [0, 1, 2, 3, 7], by simp only; omega, ?_⟩
      simp only [eg, es]
      (repeat' first | refine And.intro ?_ ?_ | exact xeC | fail)
      all_goals first
        | (simp only [List.length_append, List.length_singleton]; done)
        | (rw [List.length_append, List.length_singleton]; omega)
        | (intro i hi
           refine app_row _ (l.getD k default) _ ?_ i hi
           rfl)
    · rename_i c2
      have eg := filt_no (p := isS w sq) (show k < l.length by omega) ‹_›
      have es := filt_yes (p := fun x => !isS w sq x) (show k < l.length by omega) (by simp only [‹isS w sq _ = false›, Bool.not_false])
      refine ⟨⟨(k + 1, c2, cg), by simp only; omega⟩, [0, 1, 2, 7, 4], by simp only; omega, ?_⟩
      simp only [eg, es]
      (repeat' first | refine And.intro ?_ ?_ | exact xeC | fail)
      all_goals first
        | (simp only [List.length_append, List.length_singleton]; done)
        | (rw [List.length_append, List.length_singleton]; omega)
        | (intro i hi
           refine app_row _ (l.getD k default) _ ?_ i hi
           rfl)
  · have hkl : k = l.length := by have := hk; simp only at this; omega
    subst hkl
    rw [List.take_length] at *
    refine FinK.mk ⟨[0, 1, 2, 3, 4], _, _, ⟨cs, cg, rfl, rfl⟩, ?_⟩
    (repeat' first | refine And.intro ?_ ?_ | exact xeC | fail)
end Go.Proofs.Ytofcadbfjbefkaa


namespace Go.Proofs.Ytofcadbfjbefkaa
open Go.X
set_option linter.unusedSimpArgs false
set_option linter.unusedVariables false

set_option maxRecDepth 10000 in
theorem iremove (q : Qos) (l : List Smp) (c : Nat) (w sq : Int) (hl : l.length ≤ 1000000) :
    Ctr Try.prog 21 [.c (.p 0 0 0), .c (.i .i64 w), .c (.i .i64 sq)] [.one (hist 1 q l.length c), .one (smps true l c)]
      fun v h => ∃ c', v = .c (.b (decide ((0 : Int) < ((l.filter (isS w sq)).length : Nat)))) ∧ h = [.one (hist 2 q (l.filter fun x => !isS w sq x).length c'), .one .no, .one (smps true (l.filter fun x => !isS w sq x) c')] := by
  refine Ctr.mk' tbv mixed Try.func21 rfl rfl rfl (fun _ _ => by kernel_rfl) (by kernel_rfl) (by rfl) (by rfl) (by (repeat' first | refine And.intro ?_ ?_ | exact xeC | fail)) ?_
  repeat' (first | (fail_if_success (with_reducible refine xstp ?_)); first | (with_reducible intro hc; (try simp only [capsP, and_true] at hc); (try exact xfC)) | ((fail_if_success (with_reducible first | refine xgon ?_ | intro _)); (conv => whnf); (fail_if_success (fail_if_success (with_reducible first | refine xstp ?_ | refine xgon ?_ | intro _)))))
  refine xcal (σ := [.whole 1, .whole 2, .whole 3]) (nl := []) (isplitR l c w sq hl) ?_
  rintro v h' ⟨cs, cg, rfl, rfl⟩ hcaps
  repeat' (first | (fail_if_success (with_reducible refine xstp ?_)); first | ((fail_if_success (with_reducible first | refine xgon ?_ | intro _)); (conv => whnf); (fail_if_success (fail_if_success (with_reducible first | refine xstp ?_ | refine xgon ?_ | intro _)))))
  refine FinK.mk ⟨[0, 1, 4], _, _, ⟨cs, rfl, rfl⟩, ?_⟩
  (repeat' first | refine And.intro ?_ ?_ | exact xeC | fail)
end Go.Proofs.Ytofcadbfjbefkaa


namespace Go.Proofs.Ytofcadbfjbefkaa
open Go.X
set_option linter.unusedSimpArgs false
set_option linter.unusedVariables false

def addE (q : Qos) (l : List Smp) (x : Smp) : Int :=
  if x.w < 1 ∨ x.q < 1 ∨ x.t < 0 ∨ 1099511627776 < x.t then 4 else if 2000 < x.p.size then 3 else if 0 ≤ findI l x.w x.q then 7
  else if oldI q l x.w < 0 ∧ 256 ≤ l.length then 15 else 0
def addO (q : Qos) (l : List Smp) (x : Smp) : List Smp := if oldI q l x.w < 0 then [] else [l.getD (oldI q l x.w).toNat default]
def addL (q : Qos) (l : List Smp) (x : Smp) : List Smp := (if oldI q l x.w < 0 then l else l.eraseIdx (oldI q l x.w).toNat) ++ [x]
def newS (q : Qos) (l : List Smp) (x : Smp) : List Smp := if addE q l x = 0 then addL q l x else l
def outS (q : Qos) (l : List Smp) (x : Smp) : List Smp := if addE q l x = 0 then addO q l x else []
theorem add_err {q : Qos} {l : List Smp} {x : Smp} (h : addE q l x ≠ 0) : newS q l x = l ∧ outS q l x = [] := ⟨if_neg h, if_neg h⟩
theorem add_ok {q : Qos} {l : List Smp} {x : Smp} (h : addE q l x = 0) : newS q l x = addL q l x ∧ outS q l x = addO q l x := ⟨if_pos h, if_pos h⟩
def addQ (q : Qos) (l : List Smp) (x : Smp) (v : T) (h : List Fam) : Prop :=
  ∃ co c', v = .t [.c (.sl 3 0 4 0 (outS q l x).length co), .c (.i .i64 (addE q l x))] ∧
    h = [.one (hist 2 q (newS q l x).length c'), .one .no, .one (smps true (newS q l x) c'), .one (smps true (outS q l x) co)]
theorem fst_lt (l : List Smp) (w : Int) : fstI l w < l.length := by
  unfold fstI
  split
  · rename_i i h
    obtain ⟨hk, _⟩ := List.findIdx?_eq_some_iff_getElem.1 h
    omega
  · omega
theorem old_lt (q : Qos) (l : List Smp) (w : Int) : oldI q l w < l.length := by
  unfold oldI
  have := fst_lt l w
  split
  · omega
  · split
    · omega
    · exact this

set_option maxRecDepth 10000 in
set_option maxHeartbeats 4000000 in
theorem iadd (q : Qos) (l : List Smp) (c : Nat) (x : Smp) (hl : l.length ≤ 1000000) :
    Ctr Try.prog 22 [.c (.p 0 0 0), .a (encS x)] [.one (hist 1 q l.length c), .one (smps true l c)] (addQ q l x) := by
  refine Ctr.mk' tbv mixed Try.func22 rfl rfl rfl (fun _ _ => by kernel_rfl) (by kernel_rfl) (by rfl) (by rfl) (by (repeat' first | refine And.intro ?_ ?_ | exact xeC | fail)) ?_
  repeat' (first | (fail_if_success (with_reducible refine xstp ?_)); first | ((with_reducible refine And.intro (fun (hb : _ = true) => ?_) (fun (hb : _ = false) => ?_)) <;> replace hb := xnC hb <;> (try first | exact xfC | exact bff hb (by assumption) | exact bff (by assumption) hb)) | (with_reducible intro hc; (try simp only [capsP, and_true] at hc); (try exact xfC)) | ((fail_if_success (with_reducible first | refine xgon ?_ | intro _)); (conv => whnf); (fail_if_success (fail_if_success (with_reducible first | refine xstp ?_ | refine xgon ?_ | intro _)))))
  · have e : addE q l x = 4 := by unfold addE; rw [if_pos (by omega)]
    obtain ⟨e1, e2⟩ := add_err (show addE q l x ≠ 0 by omega)
    unfold addQ
    rw [e, e1, e2]
    refine FinK.mk ⟨[0, 1, 1, 9], _, _, ⟨0, c, rfl, rfl⟩, ?_⟩
    (repeat' first | refine And.intro ?_ ?_ | exact xeC | fail)
  · have e : addE q l x = 4 := by unfold addE; rw [if_pos (by omega)]
    obtain ⟨e1, e2⟩ := add_err (show addE q l x ≠ 0 by omega)
    unfold addQ
    rw [e, e1, e2]
    refine FinK.mk ⟨[0, 1, 1, 9], _, _, ⟨0, c, rfl, rfl⟩, ?_⟩
    (repeat' first | refine And.intro ?_ ?_ | exact xeC | fail)
  · have e : addE q l x = 4 := by unfold addE; rw [if_pos (by omega)]
    obtain ⟨e1, e2⟩ := add_err (show addE q l x ≠ 0 by omega)
    unfold addQ
    rw [e, e1, e2]
    refine FinK.mk ⟨[0, 1, 1, 9], _, _, ⟨0, c, rfl, rfl⟩, ?_⟩
    (repeat' first | refine And.intro ?_ ?_ | exact xeC | fail)
  · have e : addE q l x = 4 := by unfold addE; rw [if_pos (by omega)]
    obtain ⟨e1, e2⟩ := add_err (show addE q l x ≠ 0 by omega)
    unfold addQ
    rw [e, e1, e2]
    refine FinK.mk ⟨[0, 1, 1, 9], _, _, ⟨0, c, rfl, rfl⟩, ?_⟩
    (repeat' first | refine And.intro ?_ ?_ | exact xeC | fail)
  · have e : addE q l x = 3 := by unfold addE; rw [if_neg (by omega), if_pos (by omega)]
    obtain ⟨e1, e2⟩ := add_err (show addE q l x ≠ 0 by omega)
    unfold addQ
    rw [e, e1, e2]
    refine FinK.mk ⟨[0, 1, 1, 9], _, _, ⟨0, c, rfl, rfl⟩, ?_⟩
    (repeat' first | refine And.intro ?_ ?_ | exact xeC | fail)
  refine xcal (σ := [.whole 0, .whole 1]) (nl := []) (ifind q l c x.w x.q hl) ?_
  rintro v h' ⟨rfl, rfl⟩ hcaps
  refine xret ?_
  repeat' (first | (fail_if_success (with_reducible refine xstp ?_)); first | ((with_reducible refine And.intro (fun (hb : _ = true) => ?_) (fun (hb : _ = false) => ?_)) <;> replace hb := xnC hb <;> (try first | exact xfC | exact bff hb (by assumption) | exact bff (by assumption) hb)) | ((fail_if_success (with_reducible first | refine xgon ?_ | intro _)); (conv => whnf); (fail_if_success (fail_if_success (with_reducible first | refine xstp ?_ | refine xgon ?_ | intro _)))))
  · have e : addE q l x = 7 := by unfold addE; rw [if_neg (by omega), if_neg (by omega), if_pos (by omega)]
    obtain ⟨e1, e2⟩ := add_err (show addE q l x ≠ 0 by omega)
    unfold addQ
    rw [e, e1, e2]
    refine FinK.mk ⟨[0, 1, 1, 9], _, _, ⟨0, c, rfl, rfl⟩, ?_⟩
    (repeat' first | refine And.intro ?_ ?_ | exact xeC | fail)
  refine xcal (σ := [.whole 0, .whole 1]) (nl := []) (ioldest q l c x.w hl) ?_
  rintro v h' ⟨rfl, rfl⟩ hcaps
  refine xret ?_
  have hlt := old_lt q l x.w
  have hE : ¬ (x.w < 1 ∨ x.q < 1 ∨ x.t < 0 ∨ 1099511627776 < x.t) ∧ ¬ 2000 < x.p.size ∧ ¬ 0 ≤ findI l x.w x.q := by omega
  rcases Int.lt_or_le (oldI q l x.w) 0 with hneg | hpos
  · skip
    repeat' (first | (fail_if_success (with_reducible refine xstp ?_)); first | ((with_reducible refine And.intro (fun (hb : _ = true) => ?_) (fun (hb : _ = false) => ?_)) <;> replace hb := xnC hb <;> (try first | exact xfC | exact bff hb (by assumption) | exact bff (by assumption) hb)) | ((with_reducible refine And.intro ?_ ?_); focus exact xoC) | ((with_reducible refine Or.inl ⟨?_, ?_, ?_⟩); (focus rfl); focus exact xaC) | (with_reducible intro hc; (try simp only [capsP, and_true] at hc); (try exact xfC)) | ((fail_if_success (with_reducible first | refine xgon ?_ | intro _)); (conv => whnf); (fail_if_success (fail_if_success (with_reducible first | refine xstp ?_ | refine xgon ?_ | intro _)))))
    · have e : addE q l x = 15 := by unfold addE; rw [if_neg hE.1, if_neg hE.2.1, if_neg hE.2.2, if_pos (by omega)]
      obtain ⟨e1, e2⟩ := add_err (show addE q l x ≠ 0 by omega)
      unfold addQ
      rw [e, e1, e2]
      refine FinK.mk ⟨[0, 1, 1, 9], _, _, ⟨0, c, rfl, rfl⟩, ?_⟩
      (repeat' first | refine And.intro ?_ ?_ | exact xeC | fail)
    · rename_i c2
      have e : addE q l x = 0 := by unfold addE; rw [if_neg hE.1, if_neg hE.2.1, if_neg hE.2.2, if_neg (by omega)]
      have eL : addL q l x = l ++ [x] := by unfold addL; rw [if_pos hneg]
      have eO : addO q l x = [] := by unfold addO; rw [if_pos hneg]
      obtain ⟨e1, e2⟩ := add_ok e
      unfold addQ
      rw [e, e1, e2, eL, eO]
      refine FinK.mk ⟨[0, 1, 4, 9], _, _, ⟨0, c2, rfl, rfl⟩, ?_⟩
      (repeat' first | refine And.intro ?_ ?_ | exact xeC | fail)
      all_goals first
        | (simp only [List.length_append, List.length_singleton]; done)
        | (rw [List.length_append, List.length_singleton]; omega)
        | (intro i hi; exact app_row l x _ rfl i hi)
  · obtain ⟨k, hk⟩ := Int.eq_ofNat_of_zero_le hpos
    have eE : addE q l x = 0 := by unfold addE; rw [if_neg hE.1, if_neg hE.2.1, if_neg hE.2.2, if_neg (by omega)]
    have eL : addL q l x = l.eraseIdx k ++ [x] := by unfold addL; rw [if_neg (by omega), hk]; rfl
    have eO : addO q l x = [l.getD k default] := by unfold addO; rw [if_neg (by omega), hk]; rfl
    have hkl : k < l.length := by omega
    obtain ⟨e1, e2⟩ := add_ok eE
    unfold addQ
    rw [eE, e1, e2, eL, eO, hk]
    repeat' (first | (fail_if_success (with_reducible refine xstp ?_)); first | ((with_reducible refine And.intro (fun (hb : _ = true) => ?_) (fun (hb : _ = false) => ?_)) <;> replace hb := xnC hb <;> (try first | exact xfC | exact bff hb (by assumption) | exact bff (by assumption) hb)) | ((with_reducible refine And.intro ?_ ?_); focus exact xoC) | (with_reducible intro hc; (try simp only [capsP, and_true] at hc); (try exact xfC)) | ((fail_if_success (with_reducible first | refine xgon ?_ | intro _)); (conv => whnf); (fail_if_success (fail_if_success (with_reducible first | refine xstp ?_ | refine xgon ?_ | intro _)))))
    rename_i c2
    refine xcal (σ := [.whole 1]) (nl := []) (idelete l c k hkl hl) ?_
    rintro v h' ⟨rfl, rfl⟩ hcaps
    refine xret ?_
    have hel := erase_len hkl
    repeat' (first | (fail_if_success (with_reducible refine xstp ?_)); first | ((with_reducible refine And.intro ?_ ?_); focus exact xoC) | ((with_reducible refine Or.inl ⟨?_, ?_, ?_⟩); (focus rfl); focus exact xaC) | (with_reducible intro hc; (try simp only [capsP, and_true] at hc); (try exact xfC)) | ((fail_if_success (with_reducible first | refine xgon ?_ | intro _)); (conv => whnf); (fail_if_success (fail_if_success (with_reducible first | refine xstp ?_ | refine xgon ?_ | intro _)))))
    rename_i c3
    refine FinK.mk ⟨[0, 1, 6, 4], _, _, ⟨c2, c3, rfl, rfl⟩, ?_⟩
    (repeat' first | refine And.intro ?_ ?_ | exact xeC | fail)
    all_goals first
      | (simp only [List.length_append, List.length_singleton]; done)
      | (rw [List.length_append, List.length_singleton]; omega)
      | (intro i hi; exact app_row (l.eraseIdx k) x _ rfl i hi)
      | (intro i hi; have : i = 0 := by simpa using hi
         subst this; rfl)
end Go.Proofs.Ytofcadbfjbefkaa


namespace Go.Proofs.Ytofcadbfjbefkaa
open Go.X
set_option linter.unusedSimpArgs false
set_option linter.unusedVariables false

end Go.Proofs.Ytofcadbfjbefkaa

namespace Go.Proofs.Ytofcadbfjbefkaa
open Go.X
set_option linter.unusedSimpArgs false
set_option linter.unusedVariables false

theorem getD_mem {l : List Smp} {k : Nat} (h : k < l.length) : l.getD k default ∈ l := by
  rw [getD_lt h]; exact List.getElem_mem h

set_option maxRecDepth 10000 in
theorem cexpire1 (q : Qos) (l : List Smp) (c : Nat) (x : Smp) (t : Int) (h1 : 0 ≤ x.t ∧ x.t ≤ 1099511627776) (h2 : 0 < q.life ∧ q.life ≤ 1099511627776) :
    Ctr Try.prog 39 [.a (encS x), .c (.p 0 0 0), .c (.p 1 0 0)] [.one (.cells true [.i .i64 t]), .one (.cells true [.p 2 0 0]), .one (hist 3 q l.length c), .one (smps true l c)]
      fun v h => v = .c (.b (expd q x t)) ∧ h = [.one (.cells true [.i .i64 t]), .one (.cells true [.p 2 0 0]), .one (hist 3 q l.length c), .one (smps true l c)] := by
  refine Ctr.mk' tbv mixed Try.func39 rfl rfl rfl (fun _ _ => by kernel_rfl) (by kernel_rfl) (by rfl) (by rfl) (by (repeat' first | refine And.intro ?_ ?_ | exact xeC | fail)) ?_
  repeat' (first | (fail_if_success (with_reducible refine xstp ?_)); first | ((with_reducible refine And.intro ?_ ?_); focus exact xoC) | (with_reducible intro hc; (try simp only [capsP, and_true] at hc); (try exact xfC)) | ((fail_if_success (with_reducible first | refine xgon ?_ | intro _)); (conv => whnf); (fail_if_success (fail_if_success (with_reducible first | refine xstp ?_ | refine xgon ?_ | intro _)))))
  refine FinK.mk ⟨[0, 1, 2, 3], _, _, ⟨rfl, rfl⟩, ?_⟩; (repeat' first | refine And.intro ?_ ?_ | exact xeC | fail)
  exact decide_eq_decide.2 ⟨fun h => ⟨h2.1, h⟩, fun h => h.2⟩

set_option maxRecDepth 10000 in
set_option maxHeartbeats 1000000 in
theorem isplitE (q : Qos) (l : List Smp) (c : Nat) (t : Int) (hl : l.length ≤ 1000000) (h1 : ∀ x ∈ l, 0 ≤ x.t ∧ x.t ≤ 1099511627776) (h2 : 0 < q.life ∧ q.life ≤ 1099511627776) :
    Ctr Try.prog 33 [.c (.sl 0 0 4 0 l.length c), .c (.fn 39 [(1, 0, 0), (2, 0, 0)])] [.one (smps true l c), .one (.cells true [.i .i64 t]), .one (.cells true [.p 3 0 0]), .one (hist 0 q l.length c)]
      fun v h => ∃ cs cg, v = .t [.c (.sl 4 0 4 0 (stay q l t).length cs), .c (.sl 5 0 4 0 (gone q l t).length cg)] ∧
        h = [.one (smps true l c), .one (.cells true [.i .i64 t]), .one (.cells true [.p 3 0 0]), .one (hist 0 q l.length c), .one (smps true (stay q l t) cs), .one (smps true (gone q l t) cg)] := by
  refine Ctr.mk' tbv mixed Try.func33 rfl rfl rfl (fun _ _ => by kernel_rfl) (by kernel_rfl) (by rfl) (by rfl) (by (repeat' first | refine And.intro ?_ ?_ | exact xeC | fail)) ?_
  repeat' (first | (fail_if_success (with_reducible refine xstp ?_)); first | (with_reducible intro hc; (try simp only [capsP, and_true] at hc); (try exact xfC)) | ((fail_if_success (with_reducible first | refine xgon ?_ | intro _)); (conv => whnf); (fail_if_success (fail_if_success (with_reducible first | refine xstp ?_ | refine xgon ?_ | intro _)))))
  refine LoopK.mk' {k : Nat × Nat × Nat // k.1 ≤ l.length}
    (fun ⟨(k, cs, cg), _⟩ => ⟨[(1, .c (.fn 39 [(1, 0, 0), (2, 0, 0)])), (4, .c (.sl 4 0 4 0 (stay q (l.take k) t).length cs)), (5, .c (.sl 5 0 4 0 (gone q (l.take k) t).length cg)), (8, .c (.sl 0 0 4 0 l.length c)), (9, .c (.i .i64 l.length)), (10, .c (.i .i64 k))],
      [.one (smps true l c), .one (.cells true [.i .i64 t]), .one (.cells true [.p 3 0 0]), .one (hist 0 q l.length c), .one (smps true (stay q (l.take k) t) cs), .one (smps true (gone q (l.take k) t) cg)]⟩) (fun k => l.length - k.1.1)
    ⟨⟨(0, 0, 0), Nat.zero_le _⟩, [0, 1, 2, 3, 9, 10], ?_⟩ ?_
  · (repeat' first | refine And.intro ?_ ?_ | exact xeC | fail)
  rintro ⟨⟨k, cs, cg⟩, hk⟩
  have hg : (gone q (l.take k) t).length ≤ l.length := Nat.le_trans (List.length_filter_le _ _) (by rw [List.length_take]; omega)
  have hs : (stay q (l.take k) t).length ≤ l.length := Nat.le_trans (List.length_filter_le _ _) (by rw [List.length_take]; omega)
  repeat' (first | (fail_if_success (with_reducible refine xstp ?_)); first | ((with_reducible refine And.intro (fun (hb : _ = true) => ?_) (fun (hb : _ = false) => ?_)) <;> replace hb := xnC hb <;> (try first | exact xfC | exact bff hb (by assumption) | exact bff (by assumption) hb)) | ((with_reducible refine And.intro ?_ ?_); focus exact xoC) | (with_reducible intro hc; (try simp only [capsP, and_true] at hc); (try exact xfC)) | ((fail_if_success (with_reducible first | refine xgon ?_ | intro _)); (conv => whnf); (fail_if_success (fail_if_success (with_reducible first | refine xstp ?_ | refine xgon ?_ | intro _)))))
  · refine xcal (σ := [.whole 1, .whole 2, .whole 3, .whole 0]) (nl := []) (cexpire1 q l c (l.getD k default) t (h1 _ (getD_mem (by omega))) h2) ?_
    rintro v h' ⟨rfl, rfl⟩ hcaps
    refine xret ?_
    repeat' (first | (fail_if_success (with_reducible refine xstp ?_)); first | ((with_reducible refine And.intro (fun (hb : _ = true) => ?_) (fun (hb : _ = false) => ?_)) <;> replace hb := xnC hb <;> (try first | exact xfC | exact bff hb (by assumption) | exact bff (by assumption) hb)) | ((with_reducible refine And.intro ?_ ?_); focus exact xoC) | ((with_reducible refine Or.inl ⟨?_, ?_, ?_⟩); (focus rfl); focus exact xaC) | (with_reducible intro hc; (try simp only [capsP, and_true] at hc); (try exact xfC)) | ((fail_if_success (with_reducible first | refine xgon ?_ | intro _)); (conv => whnf); (fail_if_success (fail_if_success (with_reducible first | refine xstp ?_ | refine xgon ?_ | intro _)))))
    · rename Nat => c2
      obtain ⟨eg, es⟩ := gone_yes (q := q) (t := t) (show k < l.length by omega) ‹_›
      refine ⟨⟨(k + 1, cs, c2), by simp only; omega⟩, [0, 1, 2, 3, 4, 8], by simp only; omega, ?_⟩
      simp only [eg, es]
      (repeat' first | refine And.intro ?_ ?_ | exact xeC | fail)
      all_goals first
        | (simp only [List.length_append, List.length_singleton]; done)
        | (rw [List.length_append, List.length_singleton]; omega)
        | (intro i hi
           refine app_row _ (l.getD k default) _ ?_ i hi
           rfl)
    · rename Nat => c2
      obtain ⟨es, eg⟩ := gone_no (q := q) (t := t) (show k < l.length by omega) ‹_›
      refine ⟨⟨(k + 1, c2, cg), by simp only; omega⟩, [0, 1, 2, 3, 8, 5], by simp only; omega, ?_⟩
      simp only [eg, es]
      (repeat' first | refine And.intro ?_ ?_ | exact xeC | fail)
      all_goals first
        | (simp only [List.length_append, List.length_singleton]; done)
        | (rw [List.length_append, List.length_singleton]; omega)
        | (intro i hi
           refine app_row _ (l.getD k default) _ ?_ i hi
           rfl)
  · have hkl : k = l.length := by have := hk; simp only at this; omega
    subst hkl
    rw [List.take_length] at *
    refine FinK.mk ⟨[0, 1, 2, 3, 4, 5], _, _, ⟨cs, cg, rfl, rfl⟩, ?_⟩
    (repeat' first | refine And.intro ?_ ?_ | exact xeC | fail)


def expQ (q : Qos) (l : List Smp) (t : Int) (v : T) (h : List Fam) : Prop :=
  ∃ cg cs, v = .c (.sl 3 0 4 0 (gone q l t).length cg) ∧ h = [.one (hist 2 q (stay q l t).length cs), .one .no, .one (smps true (stay q l t) cs), .one (smps true (gone q l t) cg)]
theorem exp_zero {q : Qos} (h : q.life = 0) (l : List Smp) (t : Int) : gone q l t = [] ∧ stay q l t = l := by
  have e : ∀ x, expd q x t = false := fun x => decide_eq_false (by omega)
  constructor
  · exact List.filter_eq_nil_iff.2 (fun x _ => by rw [e]; simp)
  · exact List.filter_eq_self.2 (fun x _ => by rw [e]; rfl)

set_option maxRecDepth 10000 in
theorem iexpire (q : Qos) (l : List Smp) (c : Nat) (t : Int) (hl : l.length ≤ 1000000) (h1 : ∀ x ∈ l, 0 ≤ x.t ∧ x.t ≤ 1099511627776) (h2 : 0 ≤ q.life ∧ q.life ≤ 1099511627776) :
    Ctr Try.prog 25 [.c (.p 0 0 0), .c (.i .i64 t)] [.one (hist 1 q l.length c), .one (smps true l c)] (expQ q l t) := by
  refine Ctr.mk' tbv mixed Try.func25 rfl rfl rfl (fun _ _ => by kernel_rfl) (by kernel_rfl) (by rfl) (by rfl) (by (repeat' first | refine And.intro ?_ ?_ | exact xeC | fail)) ?_
  repeat' (first | (fail_if_success (with_reducible refine xstp ?_)); first | ((with_reducible refine And.intro (fun (hb : _ = true) => ?_) (fun (hb : _ = false) => ?_)) <;> replace hb := xnC hb <;> (try first | exact xfC | exact bff hb (by assumption) | exact bff (by assumption) hb)) | (with_reducible intro hc; (try simp only [capsP, and_true] at hc); (try exact xfC)) | ((fail_if_success (with_reducible first | refine xgon ?_ | intro _)); (conv => whnf); (fail_if_success (fail_if_success (with_reducible first | refine xstp ?_ | refine xgon ?_ | intro _)))))
  · obtain ⟨e1, e2⟩ := exp_zero ‹q.life = 0› l t
    unfold expQ
    rw [e1, e2]
    refine FinK.mk ⟨[0, 1, 1, 9], _, _, ⟨0, c, rfl, rfl⟩, ?_⟩
    (repeat' first | refine And.intro ?_ ?_ | exact xeC | fail)
  refine xcal (σ := [.whole 1, .whole 3, .whole 2, .whole 0]) (nl := []) (isplitE q l c t hl h1 (by omega)) ?_
  rintro v h' ⟨cs, cg, rfl, rfl⟩ hcaps
  refine xret ?_
  repeat' (first | (fail_if_success (with_reducible refine xstp ?_)); first | ((fail_if_success (with_reducible first | refine xgon ?_ | intro _)); (conv => whnf); (fail_if_success (fail_if_success (with_reducible first | refine xstp ?_ | refine xgon ?_ | intro _)))))
  unfold expQ
  refine FinK.mk ⟨[0, 1, 4, 5], _, _, ⟨cg, cs, rfl, rfl⟩, ?_⟩
  (repeat' first | refine And.intro ?_ ?_ | exact xeC | fail)
end Go.Proofs.Ytofcadbfjbefkaa


namespace Go.Proofs.Ytofcadbfjbefkaa
open Go.X
set_option linter.unusedSimpArgs false
set_option linter.unusedVariables false
structure Pk where
  (k fr to w r q f la at' : Int) (m : List Int) (p : List UInt8)
deriving Inhabited, DecidableEq
def encP (mm : C) (x : Pk) : List C := [.i .i64 x.k, .i .i64 x.fr, .i .i64 x.to, .i .i64 x.w, .i .i64 x.r, .i .i64 x.q, .i .i64 x.f, .i .i64 x.la, .i .i64 x.at', mm, .s (mkS x.p)]
abbrev ints (w : Bool) (l : List Int) (c : Nat) : Ck := .row w false 3 1 l.length c (Go.X.rowOf Go.X.encI l)
/-- The numbers that a kind uses are in range. -/
def rngP (x : Pk) : Prop := (1 ≤ x.k ∧ x.k ≤ 5) ∧ (0 ≤ x.fr ∧ x.fr ≤ 7) ∧ (0 ≤ x.to ∧ x.to ≤ 7) ∧ ((x.k = 5 ∧ 0 ≤ x.w ∨ 1 ≤ x.w) ∧ x.w ≤ 1073741824) ∧ ((x.k = 5 ∧ 0 ≤ x.r ∨ 1 ≤ x.r) ∧ x.r ≤ 1073741824) ∧
  ((x.k = 2 ∨ x.k = 3) ∨ (x.k = 1 ∧ 1 ≤ x.q ∧ x.q ≤ 1099511627776) ∨ (x.k = 5 ∧ 0 ≤ x.q ∧ x.q ≤ 1099511627776) ∨ (x.k = 4 ∧ 0 ≤ x.q ∧ x.q ≤ 1)) ∧
  ((x.k = 1 ∨ x.k = 5) ∨ (1 ≤ x.f ∧ x.f ≤ 1099511627776) ∧ (0 ≤ x.la ∧ x.la ≤ 1099511627776)) ∧ (0 ≤ x.at' ∧ x.at' ≤ 1099511627776)
instance (x : Pk) : Decidable (rngP x) := by unfold rngP; infer_instance

set_option maxRecDepth 10000 in
theorem cwithin (n lo hi : Int) :
    Ctr Try.prog 58 [.c (.i .i64 n), .c (.i .i64 lo), .c (.i .i64 hi)] [] fun v h => v = .c (.b (decide (lo ≤ n ∧ n ≤ hi))) ∧ h = [] := by
  refine Ctr.mk' tbv mixed Try.func58 rfl rfl rfl (fun _ _ => by kernel_rfl) (by kernel_rfl) (by rfl) (by rfl) (by (repeat' first | refine And.intro ?_ ?_ | exact xeC | fail)) ?_
  repeat' (first | (fail_if_success (with_reducible refine xstp ?_)); first | ((with_reducible refine And.intro (fun (hb : _ = true) => ?_) (fun (hb : _ = false) => ?_)) <;> replace hb := xnC hb <;> (try first | exact xfC | exact bff hb (by assumption) | exact bff (by assumption) hb)) | (with_reducible intro hc; (try simp only [capsP, and_true] at hc); (try exact xfC)) | ((fail_if_success (with_reducible first | refine xgon ?_ | intro _)); (conv => whnf); (fail_if_success (fail_if_success (with_reducible first | refine xstp ?_ | refine xgon ?_ | intro _)))))
  · refine FinK.mk ⟨[], _, _, ⟨rfl, rfl⟩, ?_⟩; (repeat' first | refine And.intro ?_ ?_ | exact xeC | fail)
    (first | exact decide_eq_true (by omega) | exact decide_eq_false (by omega) | exact (decide_eq_true (by omega)).symm | exact (decide_eq_false (by omega)).symm | exact decide_eq_decide.2 (by omega))
  · refine FinK.mk ⟨[], _, _, ⟨rfl, rfl⟩, ?_⟩; (repeat' first | refine And.intro ?_ ?_ | exact xeC | fail)
    (first | exact decide_eq_true (by omega) | exact decide_eq_false (by omega) | exact (decide_eq_true (by omega)).symm | exact (decide_eq_false (by omega)).symm | exact decide_eq_decide.2 (by omega))

/-- Which fields a kind uses: ends, seq, first, missing, payload. -/
def usesL (k : Int) : List C := [.b (decide (1 ≤ k ∧ k ≤ 5)), .b (decide (k = 1 ∨ k = 4 ∨ k = 5)), .b (decide (k = 2 ∨ k = 3 ∨ k = 4)), .b (decide (k = 3)), .b (decide (k = 1 ∨ k = 5))]
set_option maxRecDepth 10000 in
theorem cuses (k : Int) :
    Ctr Try.prog 45 [.c (.i .i64 k)] [] fun v h => v = .t [.a (usesL k), .c (.b (decide (1 ≤ k ∧ k ≤ 5)))] ∧ h = [] := by
  refine Ctr.mk' tbv mixed Try.func45 rfl rfl rfl (fun _ _ => by kernel_rfl) (by kernel_rfl) (by rfl) (by rfl) (by (repeat' first | refine And.intro ?_ ?_ | exact xeC | fail)) ?_
  repeat' (first | (fail_if_success (with_reducible refine xstp ?_)); first | ((with_reducible refine And.intro (fun (hb : _ = true) => ?_) (fun (hb : _ = false) => ?_)) <;> replace hb := xnC hb <;> (try first | exact xfC | exact bff hb (by assumption) | exact bff (by assumption) hb)) | (with_reducible intro hc; (try simp only [capsP, and_true] at hc); (try exact xfC)) | ((fail_if_success (with_reducible first | refine xgon ?_ | intro _)); (conv => whnf); (fail_if_success (fail_if_success (with_reducible first | refine xstp ?_ | refine xgon ?_ | intro _)))))
  all_goals (
    refine FinK.mk ⟨[], _, _, ⟨rfl, rfl⟩, ?_⟩; (repeat' first | refine And.intro ?_ ?_ | exact xeC | fail)
    all_goals (first | exact decide_eq_true (by omega) | exact decide_eq_false (by omega) | exact (decide_eq_true (by omega)).symm | exact (decide_eq_false (by omega)).symm | exact decide_eq_decide.2 (by omega)))

theorem rH18pA0 {σ : List Sg} {H h' : List Fam} {v : T} {K : T → List Fam → Prop} {H' : List Fam} {v' : T} {N : Nat} (hk : K v' H') (hN : H.length = N := by (try simp only [↓List.length_cons, ↓List.length_nil, Nat.reduceAdd]) <;> rfl) (h : givesF σ N H σ h' = some H' := by (try simp (maxSteps := 1000000) only [givesF, setF, updF, Fam.zeroth, Fam.rk, Ck.rk, C.rk, E.rk, T.rk, key, List.map_cons, List.map_nil, List.cons_append, List.nil_append, List.length_cons, List.length_nil, Option.map_some, Option.bind_some, Nat.reduceAdd, Nat.zero_add, Nat.add_zero, Nat.add_sub_cancel_left, Int.toNat_natCast, reps, List.all_cons, List.all_nil, C.flat, List.append_eq, Bool.not_true, Bool.and_true, Bool.or_false, Bool.or_self, Bool.not_false, List.append_nil, Bool.and_self, encP, usesL]) <;> rfl) (hv : v.rk σ N = v' := by (try simp only [givesF, setF, updF, Fam.zeroth, Fam.rk, Ck.rk, C.rk, E.rk, T.rk, key, List.map_cons, List.map_nil, List.cons_append, List.nil_append, List.length_cons, List.length_nil, Option.map_some, Option.bind_some, Nat.reduceAdd, Nat.zero_add, Nat.add_zero, Nat.add_sub_cancel_left, Int.toNat_natCast, reps, List.all_cons, List.all_nil, C.flat, List.append_eq, Bool.not_true, Bool.and_true, Bool.or_false, Bool.or_self, Bool.not_false, List.append_nil, Bool.and_self, encP, usesL]) <;> rfl) : RetG σ H h' v K := ret_mk3 hN h hv hk
set_option maxRecDepth 10000 in
theorem cinRange (x : Pk) (n c : Nat) (hk : 1 ≤ x.k ∧ x.k ≤ 5) :
    Ctr Try.prog 46 [.a (encP (.sl 0 0 1 0 n c) x), .a (usesL x.k)] [.one .no] fun v h => v = .c (.b (decide (rngP x))) ∧ h = [.one .no] := by
  refine Ctr.mk' tbv mixed Try.func46 rfl rfl rfl (fun _ _ => by kernel_rfl) (by kernel_rfl) (by rfl) (by rfl) (by (repeat' first | refine And.intro ?_ ?_ | exact xeC | fail)) ?_
  repeat' (first | (fail_if_success (with_reducible refine xstp ?_)); first | ((with_reducible refine And.intro (fun (hb : _ = true) => ?_) (fun (hb : _ = false) => ?_)) <;> replace hb := xnC hb <;> (try first | exact xfC | exact bff hb (by assumption) | exact bff (by assumption) hb)) | (with_reducible intro hc; (try simp only [capsP, and_true] at hc); (try exact xfC)) | ((fail_if_success (with_reducible first | refine xgon ?_ | intro _)); (conv => whnf); (fail_if_success (fail_if_success (with_reducible first | refine xstp ?_ | refine xgon ?_ | intro _)))))
  · skip
    refine xcal (σ := []) (nl := []) (cwithin (x.fr) (0) (7)) ?_
    rintro v h' ⟨rfl, rfl⟩ hcaps
    refine rH18pA0 ?_
    repeat' (first | (fail_if_success (with_reducible refine xstp ?_)); first | ((with_reducible refine And.intro (fun (hb : _ = true) => ?_) (fun (hb : _ = false) => ?_)) <;> replace hb := xnC hb <;> (try first | exact xfC | exact bff hb (by assumption) | exact bff (by assumption) hb)) | ((fail_if_success (with_reducible first | refine xgon ?_ | intro _)); (conv => whnf); (fail_if_success (fail_if_success (with_reducible first | refine xstp ?_ | refine xgon ?_ | intro _)))))
    · refine FinK.mk ⟨[0], _, _, ⟨rfl, rfl⟩, ?_⟩; (repeat' first | refine And.intro ?_ ?_ | exact xeC | fail)
      all_goals (first | exact decide_eq_true (by unfold rngP; omega) | exact decide_eq_false (by unfold rngP; omega) | exact (decide_eq_true (by unfold rngP; omega)).symm | exact (decide_eq_false (by unfold rngP; omega)).symm | exact decide_eq_decide.2 (by unfold rngP; omega))
    refine xcal (σ := []) (nl := []) (cwithin (x.to) (0) (7)) ?_
    rintro v h' ⟨rfl, rfl⟩ hcaps
    refine rH18pA0 ?_
    repeat' (first | (fail_if_success (with_reducible refine xstp ?_)); first | ((with_reducible refine And.intro (fun (hb : _ = true) => ?_) (fun (hb : _ = false) => ?_)) <;> replace hb := xnC hb <;> (try first | exact xfC | exact bff hb (by assumption) | exact bff (by assumption) hb)) | ((fail_if_success (with_reducible first | refine xgon ?_ | intro _)); (conv => whnf); (fail_if_success (fail_if_success (with_reducible first | refine xstp ?_ | refine xgon ?_ | intro _)))))
    · refine FinK.mk ⟨[0], _, _, ⟨rfl, rfl⟩, ?_⟩; (repeat' first | refine And.intro ?_ ?_ | exact xeC | fail)
      all_goals (first | exact decide_eq_true (by unfold rngP; omega) | exact decide_eq_false (by unfold rngP; omega) | exact (decide_eq_true (by unfold rngP; omega)).symm | exact (decide_eq_false (by unfold rngP; omega)).symm | exact decide_eq_decide.2 (by unfold rngP; omega))
    refine xcal (σ := []) (nl := []) (cwithin (x.w) (0) (1073741824)) ?_
    rintro v h' ⟨rfl, rfl⟩ hcaps
    refine rH18pA0 ?_
    repeat' (first | (fail_if_success (with_reducible refine xstp ?_)); first | ((with_reducible refine And.intro (fun (hb : _ = true) => ?_) (fun (hb : _ = false) => ?_)) <;> replace hb := xnC hb <;> (try first | exact xfC | exact bff hb (by assumption) | exact bff (by assumption) hb)) | ((fail_if_success (with_reducible first | refine xgon ?_ | intro _)); (conv => whnf); (fail_if_success (fail_if_success (with_reducible first | refine xstp ?_ | refine xgon ?_ | intro _)))))
    · refine FinK.mk ⟨[0], _, _, ⟨rfl, rfl⟩, ?_⟩; (repeat' first | refine And.intro ?_ ?_ | exact xeC | fail)
      all_goals (first | exact decide_eq_true (by unfold rngP; omega) | exact decide_eq_false (by unfold rngP; omega) | exact (decide_eq_true (by unfold rngP; omega)).symm | exact (decide_eq_false (by unfold rngP; omega)).symm | exact decide_eq_decide.2 (by unfold rngP; omega))
    refine xcal (σ := []) (nl := []) (cwithin (x.r) (0) (1073741824)) ?_
    rintro v h' ⟨rfl, rfl⟩ hcaps
    refine rH18pA0 ?_
    repeat' (first | (fail_if_success (with_reducible refine xstp ?_)); first | ((with_reducible refine And.intro (fun (hb : _ = true) => ?_) (fun (hb : _ = false) => ?_)) <;> replace hb := xnC hb <;> (try first | exact xfC | exact bff hb (by assumption) | exact bff (by assumption) hb)) | ((fail_if_success (with_reducible first | refine xgon ?_ | intro _)); (conv => whnf); (fail_if_success (fail_if_success (with_reducible first | refine xstp ?_ | refine xgon ?_ | intro _)))))
    · refine FinK.mk ⟨[0], _, _, ⟨rfl, rfl⟩, ?_⟩; (repeat' first | refine And.intro ?_ ?_ | exact xeC | fail)
      all_goals (first | exact decide_eq_true (by unfold rngP; omega) | exact decide_eq_false (by unfold rngP; omega) | exact (decide_eq_true (by unfold rngP; omega)).symm | exact (decide_eq_false (by unfold rngP; omega)).symm | exact decide_eq_decide.2 (by unfold rngP; omega))
    refine xcal (σ := []) (nl := []) (cwithin (x.q) (0) (1099511627776)) ?_
    rintro v h' ⟨rfl, rfl⟩ hcaps
    refine rH18pA0 ?_
    repeat' (first | (fail_if_success (with_reducible refine xstp ?_)); first | ((with_reducible refine And.intro (fun (hb : _ = true) => ?_) (fun (hb : _ = false) => ?_)) <;> replace hb := xnC hb <;> (try first | exact xfC | exact bff hb (by assumption) | exact bff (by assumption) hb)) | ((fail_if_success (with_reducible first | refine xgon ?_ | intro _)); (conv => whnf); (fail_if_success (fail_if_success (with_reducible first | refine xstp ?_ | refine xgon ?_ | intro _)))))
    · refine FinK.mk ⟨[0], _, _, ⟨rfl, rfl⟩, ?_⟩; (repeat' first | refine And.intro ?_ ?_ | exact xeC | fail)
      all_goals (first | exact decide_eq_true (by unfold rngP; omega) | exact decide_eq_false (by unfold rngP; omega) | exact (decide_eq_true (by unfold rngP; omega)).symm | exact (decide_eq_false (by unfold rngP; omega)).symm | exact decide_eq_decide.2 (by unfold rngP; omega))
    refine xcal (σ := []) (nl := []) (cwithin (x.at') (0) (1099511627776)) ?_
    rintro v h' ⟨rfl, rfl⟩ hcaps
    refine rH18pA0 ?_
    repeat' (first | (fail_if_success (with_reducible refine xstp ?_)); first | ((fail_if_success (with_reducible first | refine xgon ?_ | intro _)); (conv => whnf); (fail_if_success (fail_if_success (with_reducible first | refine xstp ?_ | refine xgon ?_ | intro _)))))
    refine FinK.mk ⟨[0], _, _, ⟨rfl, rfl⟩, ?_⟩; (repeat' first | refine And.intro ?_ ?_ | exact xeC | fail)
    all_goals (first | exact decide_eq_true (by unfold rngP; omega) | exact decide_eq_false (by unfold rngP; omega) | exact (decide_eq_true (by unfold rngP; omega)).symm | exact (decide_eq_false (by unfold rngP; omega)).symm | exact decide_eq_decide.2 (by unfold rngP; omega))
  · skip
    refine xcal (σ := []) (nl := []) (cwithin (x.fr) (0) (7)) ?_
    rintro v h' ⟨rfl, rfl⟩ hcaps
    refine rH18pA0 ?_
    repeat' (first | (fail_if_success (with_reducible refine xstp ?_)); first | ((with_reducible refine And.intro (fun (hb : _ = true) => ?_) (fun (hb : _ = false) => ?_)) <;> replace hb := xnC hb <;> (try first | exact xfC | exact bff hb (by assumption) | exact bff (by assumption) hb)) | ((fail_if_success (with_reducible first | refine xgon ?_ | intro _)); (conv => whnf); (fail_if_success (fail_if_success (with_reducible first | refine xstp ?_ | refine xgon ?_ | intro _)))))
    · refine FinK.mk ⟨[0], _, _, ⟨rfl, rfl⟩, ?_⟩; (repeat' first | refine And.intro ?_ ?_ | exact xeC | fail)
      all_goals (first | exact decide_eq_true (by unfold rngP; omega) | exact decide_eq_false (by unfold rngP; omega) | exact (decide_eq_true (by unfold rngP; omega)).symm | exact (decide_eq_false (by unfold rngP; omega)).symm | exact decide_eq_decide.2 (by unfold rngP; omega))
    refine xcal (σ := []) (nl := []) (cwithin (x.to) (0) (7)) ?_
    rintro v h' ⟨rfl, rfl⟩ hcaps
    refine rH18pA0 ?_
    repeat' (first | (fail_if_success (with_reducible refine xstp ?_)); first | ((with_reducible refine And.intro (fun (hb : _ = true) => ?_) (fun (hb : _ = false) => ?_)) <;> replace hb := xnC hb <;> (try first | exact xfC | exact bff hb (by assumption) | exact bff (by assumption) hb)) | ((fail_if_success (with_reducible first | refine xgon ?_ | intro _)); (conv => whnf); (fail_if_success (fail_if_success (with_reducible first | refine xstp ?_ | refine xgon ?_ | intro _)))))
    · refine FinK.mk ⟨[0], _, _, ⟨rfl, rfl⟩, ?_⟩; (repeat' first | refine And.intro ?_ ?_ | exact xeC | fail)
      all_goals (first | exact decide_eq_true (by unfold rngP; omega) | exact decide_eq_false (by unfold rngP; omega) | exact (decide_eq_true (by unfold rngP; omega)).symm | exact (decide_eq_false (by unfold rngP; omega)).symm | exact decide_eq_decide.2 (by unfold rngP; omega))
    refine xcal (σ := []) (nl := []) (cwithin (x.w) (1) (1073741824)) ?_
    rintro v h' ⟨rfl, rfl⟩ hcaps
    refine rH18pA0 ?_
    repeat' (first | (fail_if_success (with_reducible refine xstp ?_)); first | ((with_reducible refine And.intro (fun (hb : _ = true) => ?_) (fun (hb : _ = false) => ?_)) <;> replace hb := xnC hb <;> (try first | exact xfC | exact bff hb (by assumption) | exact bff (by assumption) hb)) | ((fail_if_success (with_reducible first | refine xgon ?_ | intro _)); (conv => whnf); (fail_if_success (fail_if_success (with_reducible first | refine xstp ?_ | refine xgon ?_ | intro _)))))
    · refine FinK.mk ⟨[0], _, _, ⟨rfl, rfl⟩, ?_⟩; (repeat' first | refine And.intro ?_ ?_ | exact xeC | fail)
      all_goals (first | exact decide_eq_true (by unfold rngP; omega) | exact decide_eq_false (by unfold rngP; omega) | exact (decide_eq_true (by unfold rngP; omega)).symm | exact (decide_eq_false (by unfold rngP; omega)).symm | exact decide_eq_decide.2 (by unfold rngP; omega))
    refine xcal (σ := []) (nl := []) (cwithin (x.r) (1) (1073741824)) ?_
    rintro v h' ⟨rfl, rfl⟩ hcaps
    refine rH18pA0 ?_
    repeat' (first | (fail_if_success (with_reducible refine xstp ?_)); first | ((with_reducible refine And.intro (fun (hb : _ = true) => ?_) (fun (hb : _ = false) => ?_)) <;> replace hb := xnC hb <;> (try first | exact xfC | exact bff hb (by assumption) | exact bff (by assumption) hb)) | ((fail_if_success (with_reducible first | refine xgon ?_ | intro _)); (conv => whnf); (fail_if_success (fail_if_success (with_reducible first | refine xstp ?_ | refine xgon ?_ | intro _)))))
    · refine FinK.mk ⟨[0], _, _, ⟨rfl, rfl⟩, ?_⟩; (repeat' first | refine And.intro ?_ ?_ | exact xeC | fail)
      all_goals (first | exact decide_eq_true (by unfold rngP; omega) | exact decide_eq_false (by unfold rngP; omega) | exact (decide_eq_true (by unfold rngP; omega)).symm | exact (decide_eq_false (by unfold rngP; omega)).symm | exact decide_eq_decide.2 (by unfold rngP; omega))
    refine xcal (σ := []) (nl := []) (cwithin (x.q) (0) (1)) ?_
    rintro v h' ⟨rfl, rfl⟩ hcaps
    refine rH18pA0 ?_
    repeat' (first | (fail_if_success (with_reducible refine xstp ?_)); first | ((with_reducible refine And.intro (fun (hb : _ = true) => ?_) (fun (hb : _ = false) => ?_)) <;> replace hb := xnC hb <;> (try first | exact xfC | exact bff hb (by assumption) | exact bff (by assumption) hb)) | ((fail_if_success (with_reducible first | refine xgon ?_ | intro _)); (conv => whnf); (fail_if_success (fail_if_success (with_reducible first | refine xstp ?_ | refine xgon ?_ | intro _)))))
    · refine FinK.mk ⟨[0], _, _, ⟨rfl, rfl⟩, ?_⟩; (repeat' first | refine And.intro ?_ ?_ | exact xeC | fail)
      all_goals (first | exact decide_eq_true (by unfold rngP; omega) | exact decide_eq_false (by unfold rngP; omega) | exact (decide_eq_true (by unfold rngP; omega)).symm | exact (decide_eq_false (by unfold rngP; omega)).symm | exact decide_eq_decide.2 (by unfold rngP; omega))
    refine xcal (σ := []) (nl := []) (cwithin (x.f) (1) (1099511627776)) ?_
    rintro v h' ⟨rfl, rfl⟩ hcaps
    refine rH18pA0 ?_
    repeat' (first | (fail_if_success (with_reducible refine xstp ?_)); first | ((with_reducible refine And.intro (fun (hb : _ = true) => ?_) (fun (hb : _ = false) => ?_)) <;> replace hb := xnC hb <;> (try first | exact xfC | exact bff hb (by assumption) | exact bff (by assumption) hb)) | ((fail_if_success (with_reducible first | refine xgon ?_ | intro _)); (conv => whnf); (fail_if_success (fail_if_success (with_reducible first | refine xstp ?_ | refine xgon ?_ | intro _)))))
    · refine FinK.mk ⟨[0], _, _, ⟨rfl, rfl⟩, ?_⟩; (repeat' first | refine And.intro ?_ ?_ | exact xeC | fail)
      all_goals (first | exact decide_eq_true (by unfold rngP; omega) | exact decide_eq_false (by unfold rngP; omega) | exact (decide_eq_true (by unfold rngP; omega)).symm | exact (decide_eq_false (by unfold rngP; omega)).symm | exact decide_eq_decide.2 (by unfold rngP; omega))
    refine xcal (σ := []) (nl := []) (cwithin (x.la) (0) (1099511627776)) ?_
    rintro v h' ⟨rfl, rfl⟩ hcaps
    refine rH18pA0 ?_
    repeat' (first | (fail_if_success (with_reducible refine xstp ?_)); first | ((with_reducible refine And.intro (fun (hb : _ = true) => ?_) (fun (hb : _ = false) => ?_)) <;> replace hb := xnC hb <;> (try first | exact xfC | exact bff hb (by assumption) | exact bff (by assumption) hb)) | ((fail_if_success (with_reducible first | refine xgon ?_ | intro _)); (conv => whnf); (fail_if_success (fail_if_success (with_reducible first | refine xstp ?_ | refine xgon ?_ | intro _)))))
    · refine FinK.mk ⟨[0], _, _, ⟨rfl, rfl⟩, ?_⟩; (repeat' first | refine And.intro ?_ ?_ | exact xeC | fail)
      all_goals (first | exact decide_eq_true (by unfold rngP; omega) | exact decide_eq_false (by unfold rngP; omega) | exact (decide_eq_true (by unfold rngP; omega)).symm | exact (decide_eq_false (by unfold rngP; omega)).symm | exact decide_eq_decide.2 (by unfold rngP; omega))
    refine xcal (σ := []) (nl := []) (cwithin (x.at') (0) (1099511627776)) ?_
    rintro v h' ⟨rfl, rfl⟩ hcaps
    refine rH18pA0 ?_
    repeat' (first | (fail_if_success (with_reducible refine xstp ?_)); first | ((fail_if_success (with_reducible first | refine xgon ?_ | intro _)); (conv => whnf); (fail_if_success (fail_if_success (with_reducible first | refine xstp ?_ | refine xgon ?_ | intro _)))))
    refine FinK.mk ⟨[0], _, _, ⟨rfl, rfl⟩, ?_⟩; (repeat' first | refine And.intro ?_ ?_ | exact xeC | fail)
    all_goals (first | exact decide_eq_true (by unfold rngP; omega) | exact decide_eq_false (by unfold rngP; omega) | exact (decide_eq_true (by unfold rngP; omega)).symm | exact (decide_eq_false (by unfold rngP; omega)).symm | exact decide_eq_decide.2 (by unfold rngP; omega))
  · skip
    refine xcal (σ := []) (nl := []) (cwithin (x.fr) (0) (7)) ?_
    rintro v h' ⟨rfl, rfl⟩ hcaps
    refine rH18pA0 ?_
    repeat' (first | (fail_if_success (with_reducible refine xstp ?_)); first | ((with_reducible refine And.intro (fun (hb : _ = true) => ?_) (fun (hb : _ = false) => ?_)) <;> replace hb := xnC hb <;> (try first | exact xfC | exact bff hb (by assumption) | exact bff (by assumption) hb)) | ((fail_if_success (with_reducible first | refine xgon ?_ | intro _)); (conv => whnf); (fail_if_success (fail_if_success (with_reducible first | refine xstp ?_ | refine xgon ?_ | intro _)))))
    · refine FinK.mk ⟨[0], _, _, ⟨rfl, rfl⟩, ?_⟩; (repeat' first | refine And.intro ?_ ?_ | exact xeC | fail)
      all_goals (first | exact decide_eq_true (by unfold rngP; omega) | exact decide_eq_false (by unfold rngP; omega) | exact (decide_eq_true (by unfold rngP; omega)).symm | exact (decide_eq_false (by unfold rngP; omega)).symm | exact decide_eq_decide.2 (by unfold rngP; omega))
    refine xcal (σ := []) (nl := []) (cwithin (x.to) (0) (7)) ?_
    rintro v h' ⟨rfl, rfl⟩ hcaps
    refine rH18pA0 ?_
    repeat' (first | (fail_if_success (with_reducible refine xstp ?_)); first | ((with_reducible refine And.intro (fun (hb : _ = true) => ?_) (fun (hb : _ = false) => ?_)) <;> replace hb := xnC hb <;> (try first | exact xfC | exact bff hb (by assumption) | exact bff (by assumption) hb)) | ((fail_if_success (with_reducible first | refine xgon ?_ | intro _)); (conv => whnf); (fail_if_success (fail_if_success (with_reducible first | refine xstp ?_ | refine xgon ?_ | intro _)))))
    · refine FinK.mk ⟨[0], _, _, ⟨rfl, rfl⟩, ?_⟩; (repeat' first | refine And.intro ?_ ?_ | exact xeC | fail)
      all_goals (first | exact decide_eq_true (by unfold rngP; omega) | exact decide_eq_false (by unfold rngP; omega) | exact (decide_eq_true (by unfold rngP; omega)).symm | exact (decide_eq_false (by unfold rngP; omega)).symm | exact decide_eq_decide.2 (by unfold rngP; omega))
    refine xcal (σ := []) (nl := []) (cwithin (x.w) (1) (1073741824)) ?_
    rintro v h' ⟨rfl, rfl⟩ hcaps
    refine rH18pA0 ?_
    repeat' (first | (fail_if_success (with_reducible refine xstp ?_)); first | ((with_reducible refine And.intro (fun (hb : _ = true) => ?_) (fun (hb : _ = false) => ?_)) <;> replace hb := xnC hb <;> (try first | exact xfC | exact bff hb (by assumption) | exact bff (by assumption) hb)) | ((fail_if_success (with_reducible first | refine xgon ?_ | intro _)); (conv => whnf); (fail_if_success (fail_if_success (with_reducible first | refine xstp ?_ | refine xgon ?_ | intro _)))))
    · refine FinK.mk ⟨[0], _, _, ⟨rfl, rfl⟩, ?_⟩; (repeat' first | refine And.intro ?_ ?_ | exact xeC | fail)
      all_goals (first | exact decide_eq_true (by unfold rngP; omega) | exact decide_eq_false (by unfold rngP; omega) | exact (decide_eq_true (by unfold rngP; omega)).symm | exact (decide_eq_false (by unfold rngP; omega)).symm | exact decide_eq_decide.2 (by unfold rngP; omega))
    refine xcal (σ := []) (nl := []) (cwithin (x.r) (1) (1073741824)) ?_
    rintro v h' ⟨rfl, rfl⟩ hcaps
    refine rH18pA0 ?_
    repeat' (first | (fail_if_success (with_reducible refine xstp ?_)); first | ((with_reducible refine And.intro (fun (hb : _ = true) => ?_) (fun (hb : _ = false) => ?_)) <;> replace hb := xnC hb <;> (try first | exact xfC | exact bff hb (by assumption) | exact bff (by assumption) hb)) | ((fail_if_success (with_reducible first | refine xgon ?_ | intro _)); (conv => whnf); (fail_if_success (fail_if_success (with_reducible first | refine xstp ?_ | refine xgon ?_ | intro _)))))
    · refine FinK.mk ⟨[0], _, _, ⟨rfl, rfl⟩, ?_⟩; (repeat' first | refine And.intro ?_ ?_ | exact xeC | fail)
      all_goals (first | exact decide_eq_true (by unfold rngP; omega) | exact decide_eq_false (by unfold rngP; omega) | exact (decide_eq_true (by unfold rngP; omega)).symm | exact (decide_eq_false (by unfold rngP; omega)).symm | exact decide_eq_decide.2 (by unfold rngP; omega))
    · skip
      refine xcal (σ := []) (nl := []) (cwithin (x.q) (1) (1099511627776)) ?_
      rintro v h' ⟨rfl, rfl⟩ hcaps
      refine rH18pA0 ?_
      repeat' (first | (fail_if_success (with_reducible refine xstp ?_)); first | ((with_reducible refine And.intro (fun (hb : _ = true) => ?_) (fun (hb : _ = false) => ?_)) <;> replace hb := xnC hb <;> (try first | exact xfC | exact bff hb (by assumption) | exact bff (by assumption) hb)) | ((fail_if_success (with_reducible first | refine xgon ?_ | intro _)); (conv => whnf); (fail_if_success (fail_if_success (with_reducible first | refine xstp ?_ | refine xgon ?_ | intro _)))))
      · refine FinK.mk ⟨[0], _, _, ⟨rfl, rfl⟩, ?_⟩; (repeat' first | refine And.intro ?_ ?_ | exact xeC | fail)
        all_goals (first | exact decide_eq_true (by unfold rngP; omega) | exact decide_eq_false (by unfold rngP; omega) | exact (decide_eq_true (by unfold rngP; omega)).symm | exact (decide_eq_false (by unfold rngP; omega)).symm | exact decide_eq_decide.2 (by unfold rngP; omega))
      refine xcal (σ := []) (nl := []) (cwithin (x.at') (0) (1099511627776)) ?_
      rintro v h' ⟨rfl, rfl⟩ hcaps
      refine rH18pA0 ?_
      repeat' (first | (fail_if_success (with_reducible refine xstp ?_)); first | ((fail_if_success (with_reducible first | refine xgon ?_ | intro _)); (conv => whnf); (fail_if_success (fail_if_success (with_reducible first | refine xstp ?_ | refine xgon ?_ | intro _)))))
      refine FinK.mk ⟨[0], _, _, ⟨rfl, rfl⟩, ?_⟩; (repeat' first | refine And.intro ?_ ?_ | exact xeC | fail)
      all_goals (first | exact decide_eq_true (by unfold rngP; omega) | exact decide_eq_false (by unfold rngP; omega) | exact (decide_eq_true (by unfold rngP; omega)).symm | exact (decide_eq_false (by unfold rngP; omega)).symm | exact decide_eq_decide.2 (by unfold rngP; omega))
    · skip
      refine xcal (σ := []) (nl := []) (cwithin (x.f) (1) (1099511627776)) ?_
      rintro v h' ⟨rfl, rfl⟩ hcaps
      refine rH18pA0 ?_
      repeat' (first | (fail_if_success (with_reducible refine xstp ?_)); first | ((with_reducible refine And.intro (fun (hb : _ = true) => ?_) (fun (hb : _ = false) => ?_)) <;> replace hb := xnC hb <;> (try first | exact xfC | exact bff hb (by assumption) | exact bff (by assumption) hb)) | ((fail_if_success (with_reducible first | refine xgon ?_ | intro _)); (conv => whnf); (fail_if_success (fail_if_success (with_reducible first | refine xstp ?_ | refine xgon ?_ | intro _)))))
      · refine FinK.mk ⟨[0], _, _, ⟨rfl, rfl⟩, ?_⟩; (repeat' first | refine And.intro ?_ ?_ | exact xeC | fail)
        all_goals (first | exact decide_eq_true (by unfold rngP; omega) | exact decide_eq_false (by unfold rngP; omega) | exact (decide_eq_true (by unfold rngP; omega)).symm | exact (decide_eq_false (by unfold rngP; omega)).symm | exact decide_eq_decide.2 (by unfold rngP; omega))
      refine xcal (σ := []) (nl := []) (cwithin (x.la) (0) (1099511627776)) ?_
      rintro v h' ⟨rfl, rfl⟩ hcaps
      refine rH18pA0 ?_
      repeat' (first | (fail_if_success (with_reducible refine xstp ?_)); first | ((with_reducible refine And.intro (fun (hb : _ = true) => ?_) (fun (hb : _ = false) => ?_)) <;> replace hb := xnC hb <;> (try first | exact xfC | exact bff hb (by assumption) | exact bff (by assumption) hb)) | ((fail_if_success (with_reducible first | refine xgon ?_ | intro _)); (conv => whnf); (fail_if_success (fail_if_success (with_reducible first | refine xstp ?_ | refine xgon ?_ | intro _)))))
      · refine FinK.mk ⟨[0], _, _, ⟨rfl, rfl⟩, ?_⟩; (repeat' first | refine And.intro ?_ ?_ | exact xeC | fail)
        all_goals (first | exact decide_eq_true (by unfold rngP; omega) | exact decide_eq_false (by unfold rngP; omega) | exact (decide_eq_true (by unfold rngP; omega)).symm | exact (decide_eq_false (by unfold rngP; omega)).symm | exact decide_eq_decide.2 (by unfold rngP; omega))
      refine xcal (σ := []) (nl := []) (cwithin (x.at') (0) (1099511627776)) ?_
      rintro v h' ⟨rfl, rfl⟩ hcaps
      refine rH18pA0 ?_
      repeat' (first | (fail_if_success (with_reducible refine xstp ?_)); first | ((fail_if_success (with_reducible first | refine xgon ?_ | intro _)); (conv => whnf); (fail_if_success (fail_if_success (with_reducible first | refine xstp ?_ | refine xgon ?_ | intro _)))))
      refine FinK.mk ⟨[0], _, _, ⟨rfl, rfl⟩, ?_⟩; (repeat' first | refine And.intro ?_ ?_ | exact xeC | fail)
      all_goals (first | exact decide_eq_true (by unfold rngP; omega) | exact decide_eq_false (by unfold rngP; omega) | exact (decide_eq_true (by unfold rngP; omega)).symm | exact (decide_eq_false (by unfold rngP; omega)).symm | exact decide_eq_decide.2 (by unfold rngP; omega))

/-- What a kind does not use is not zero. -/
def unuP (x : Pk) : Prop := ((x.k = 2 ∨ x.k = 3) ∧ x.q ≠ 0) ∨ ((x.k = 1 ∨ x.k = 5) ∧ (x.f ≠ 0 ∨ x.la ≠ 0)) ∨ (x.k ≠ 3 ∧ 0 < x.m.length) ∨ ((x.k = 2 ∨ x.k = 3 ∨ x.k = 4) ∧ x.p ≠ [])
instance (x : Pk) : Decidable (unuP x) := by unfold unuP; infer_instance
/-- A missing number is out of range, or not above the one before. -/
def badA (x : Pk) (i : Nat) : Prop := x.m.getD i default < x.f ∨ x.la < x.m.getD i default ∨ (0 < i ∧ x.m.getD i default ≤ x.m.getD (i - 1) default)
instance (x : Pk) (i : Nat) : Decidable (badA x i) := by unfold badA; infer_instance
def badP (x : Pk) : Prop := ∃ i, i < x.m.length ∧ badA x i
instance (x : Pk) : Decidable (badP x) := by unfold badP; infer_instance
def chk (x : Pk) : Nat := if ¬ rngP x then 4 else if 2000 < x.p.length ∨ 32 < x.m.length then 3 else if unuP x then 2 else if badP x then 2 else 0

set_option maxRecDepth 10000 in
theorem cCheck (x : Pk) (wa : Bool) (c : Nat) (hp : x.p.length ≤ 1000000) (hm : x.m.length ≤ 1000000) :
    Ctr Try.prog 28 [.a (encP (.sl 0 0 1 0 x.m.length c) x)] [.one (ints wa x.m c)] fun v h => v = .c (.i .i64 (chk x : Nat)) ∧ h = [.one (ints wa x.m c)] := by
  refine Ctr.mk' tbv mixed Try.func28 rfl rfl rfl (fun _ _ => by kernel_rfl) (by kernel_rfl) (by rfl) (by rfl) (by (repeat' first | refine And.intro ?_ ?_ | exact xeC | fail)) ?_
  repeat' (first | (fail_if_success (with_reducible refine xstp ?_)); first | (with_reducible intro hc; (try simp only [capsP, and_true] at hc); (try exact xfC)) | ((fail_if_success (with_reducible first | refine xgon ?_ | intro _)); (conv => whnf); (fail_if_success (fail_if_success (with_reducible first | refine xstp ?_ | refine xgon ?_ | intro _)))))
  refine xcal (σ := []) (nl := []) (cuses x.k) ?_
  rintro v h' ⟨rfl, rfl⟩ hcaps
  refine rH18pA0 ?_
  repeat' (first | (fail_if_success (with_reducible refine xstp ?_)); first | ((with_reducible refine And.intro (fun (hb : _ = true) => ?_) (fun (hb : _ = false) => ?_)) <;> replace hb := xnC hb <;> (try first | exact xfC | exact bff hb (by assumption) | exact bff (by assumption) hb)) | ((fail_if_success (with_reducible first | refine xgon ?_ | intro _)); (conv => whnf); (fail_if_success (fail_if_success (with_reducible first | refine xstp ?_ | refine xgon ?_ | intro _)))))
  · have hr : ¬ rngP x := fun h => hb h.1
    rw [show chk x = 4 from if_pos hr]
    refine FinK.mk ⟨[0], _, _, ⟨rfl, rfl⟩, ?_⟩; (repeat' first | refine And.intro ?_ ?_ | exact xeC | fail)
  have hz : (mkS x.p).size = x.p.length := rfl
  refine xcal (σ := [.name 0]) (nl := []) (cinRange x x.m.length c hb) ?_
  rintro v h' ⟨rfl, rfl⟩ hcaps
  refine rH18pA0 ?_
  repeat' (first | (fail_if_success (with_reducible refine xstp ?_)); first | ((with_reducible refine And.intro (fun (hb : _ = true) => ?_) (fun (hb : _ = false) => ?_)) <;> replace hb := xnC hb <;> (try first | exact xfC | exact bff hb (by assumption) | exact bff (by assumption) hb)) | ((fail_if_success (with_reducible first | refine xgon ?_ | intro _)); (conv => whnf); (fail_if_success (fail_if_success (with_reducible first | refine xstp ?_ | refine xgon ?_ | intro _)))))
  · rw [show chk x = 4 from if_pos hb]
    refine FinK.mk ⟨[0], _, _, ⟨rfl, rfl⟩, ?_⟩; (repeat' first | refine And.intro ?_ ?_ | exact xeC | fail)
  · have hr : rngP x := by assumption
    rw [show chk x = 3 by unfold chk; rw [if_neg (by simpa using hr), if_pos (by omega)]]
    refine FinK.mk ⟨[0], _, _, ⟨rfl, rfl⟩, ?_⟩; (repeat' first | refine And.intro ?_ ?_ | exact xeC | fail)
  · have hr : rngP x := by assumption
    rw [show chk x = 3 by unfold chk; rw [if_neg (by simpa using hr), if_pos (by omega)]]
    refine FinK.mk ⟨[0], _, _, ⟨rfl, rfl⟩, ?_⟩; (repeat' first | refine And.intro ?_ ?_ | exact xeC | fail)
  all_goals try (
    have hr : rngP x := by assumption
    have hun : unuP x := by
      unfold unuP
      first
        | omega
        | (have hpn : x.p ≠ [] := fun h => by simp_all [mkS]
           simp only [hpn, ne_eq, not_false_eq_true, and_true]
           omega)
    rw [show chk x = 2 by unfold chk; rw [if_neg (by simpa using hr), if_neg (by omega), if_pos hun]]
    refine FinK.mk ⟨[0], _, _, ⟨rfl, rfl⟩, ?_⟩; (repeat' first | refine And.intro ?_ ?_ | exact xeC | fail))
  · skip
    have hr : rngP x := by assumption
    have hp0 : x.p = [] ∨ (x.k = 1 ∨ x.k = 5) := by
      first
        | (right; assumption)
        | (left; exact mkS_inj.1 (by assumption))
    have hun : ¬ unuP x := by
      unfold unuP
      rcases hp0 with h | h
      · simp only [h, ne_eq, not_true_eq_false, and_false, or_false]
        omega
      · omega
    refine LoopK.mk' {i : Nat // i ≤ x.m.length ∧ ∀ j, j < i → ¬ badA x j}
      (fun ⟨i, _⟩ => ⟨[(1, .c (.p 1 0 0)), (73, .c (.sl 0 0 1 0 x.m.length c)), (74, .c (.i .i64 x.m.length)), (75, .c (.i .i64 (i : Nat)))], [.one (ints wa x.m c), .one (.cells true (encP (.sl 0 0 1 0 x.m.length c) x))]⟩) (fun k => x.m.length - k.1)
      ⟨⟨0, Nat.zero_le _, by intro j h; omega⟩, [0, 1], ?_⟩ ?_
    · (repeat' first | refine And.intro ?_ ?_ | exact xeC | fail)
    rintro ⟨i, hi, hno⟩
    repeat' (first | (fail_if_success (with_reducible refine xstp ?_)); first | ((with_reducible refine And.intro (fun (hb : _ = true) => ?_) (fun (hb : _ = false) => ?_)) <;> replace hb := xnC hb <;> (try first | exact xfC | exact bff hb (by assumption) | exact bff (by assumption) hb)) | (with_reducible intro hc; (try simp only [capsP, and_true] at hc); (try exact xfC)) | ((fail_if_success (with_reducible first | refine xgon ?_ | intro _)); (conv => whnf); (fail_if_success (fail_if_success (with_reducible first | refine xstp ?_ | refine xgon ?_ | intro _)))))
    all_goals try simp only [show ((i : Int) - 1).toNat = i - 1 by omega] at *
    all_goals first
      | (have hbad : badA x i := by unfold badA; omega
         have hil : i < x.m.length := by omega
         rw [show chk x = 2 by unfold chk; rw [if_neg (by simpa using hr), if_neg (by omega), if_neg hun, if_pos ⟨i, hil, hbad⟩]]
         refine FinK.mk ⟨[0], _, _, ⟨rfl, rfl⟩, ?_⟩; (repeat' first | refine And.intro ?_ ?_ | exact xeC | fail)
         done)
      | (have hil : i < x.m.length := by omega
         have hbad : ¬ badA x i := by unfold badA; omega
         refine ⟨⟨i + 1, by omega, fun j hj => by
           rcases (by omega : j < i ∨ j = i) with h | rfl
           · exact hno j h
           · exact hbad⟩, [0, 1], by simp only; omega, ?_⟩
         (repeat' first | refine And.intro ?_ ?_ | exact xeC | fail)
         done)
      | (have hil : i = x.m.length := by omega
         rw [show chk x = 0 by unfold chk; rw [if_neg (by simpa using hr), if_neg (by omega), if_neg hun, if_neg (fun ⟨j, h1, h2⟩ => hno j (by omega) h2)]]
         refine FinK.mk ⟨[0], _, _, ⟨rfl, rfl⟩, ?_⟩; (repeat' first | refine And.intro ?_ ?_ | exact xeC | fail)
         done)
  · skip
    have hr : rngP x := by assumption
    have hp0 : x.p = [] ∨ (x.k = 1 ∨ x.k = 5) := by
      first
        | (right; assumption)
        | (left; exact mkS_inj.1 (by assumption))
    have hun : ¬ unuP x := by
      unfold unuP
      rcases hp0 with h | h
      · simp only [h, ne_eq, not_true_eq_false, and_false, or_false]
        omega
      · omega
    refine LoopK.mk' {i : Nat // i ≤ x.m.length ∧ ∀ j, j < i → ¬ badA x j}
      (fun ⟨i, _⟩ => ⟨[(1, .c (.p 1 0 0)), (73, .c (.sl 0 0 1 0 x.m.length c)), (74, .c (.i .i64 x.m.length)), (75, .c (.i .i64 (i : Nat)))], [.one (ints wa x.m c), .one (.cells true (encP (.sl 0 0 1 0 x.m.length c) x))]⟩) (fun k => x.m.length - k.1)
      ⟨⟨0, Nat.zero_le _, by intro j h; omega⟩, [0, 1], ?_⟩ ?_
    · (repeat' first | refine And.intro ?_ ?_ | exact xeC | fail)
    rintro ⟨i, hi, hno⟩
    repeat' (first | (fail_if_success (with_reducible refine xstp ?_)); first | ((with_reducible refine And.intro (fun (hb : _ = true) => ?_) (fun (hb : _ = false) => ?_)) <;> replace hb := xnC hb <;> (try first | exact xfC | exact bff hb (by assumption) | exact bff (by assumption) hb)) | ((with_reducible refine And.intro ?_ ?_); focus exact xoC) | (with_reducible intro hc; (try simp only [capsP, and_true] at hc); (try exact xfC)) | ((fail_if_success (with_reducible first | refine xgon ?_ | intro _)); (conv => whnf); (fail_if_success (fail_if_success (with_reducible first | refine xstp ?_ | refine xgon ?_ | intro _)))))
    all_goals try simp only [show ((i : Int) - 1).toNat = i - 1 by omega] at *
    all_goals first
      | (have hbad : badA x i := by unfold badA; omega
         have hil : i < x.m.length := by omega
         rw [show chk x = 2 by unfold chk; rw [if_neg (by simpa using hr), if_neg (by omega), if_neg hun, if_pos ⟨i, hil, hbad⟩]]
         refine FinK.mk ⟨[0], _, _, ⟨rfl, rfl⟩, ?_⟩; (repeat' first | refine And.intro ?_ ?_ | exact xeC | fail)
         done)
      | (have hil : i < x.m.length := by omega
         have hbad : ¬ badA x i := by unfold badA; omega
         refine ⟨⟨i + 1, by omega, fun j hj => by
           rcases (by omega : j < i ∨ j = i) with h | rfl
           · exact hno j h
           · exact hbad⟩, [0, 1], by simp only; omega, ?_⟩
         (repeat' first | refine And.intro ?_ ?_ | exact xeC | fail)
         done)
      | (have hil : i = x.m.length := by omega
         rw [show chk x = 0 by unfold chk; rw [if_neg (by simpa using hr), if_neg (by omega), if_neg hun, if_neg (fun ⟨j, h1, h2⟩ => hno j (by omega) h2)]]
         refine FinK.mk ⟨[0], _, _, ⟨rfl, rfl⟩, ?_⟩; (repeat' first | refine And.intro ?_ ?_ | exact xeC | fail)
         done)
  · skip
    have hr : rngP x := by assumption
    have hp0 : x.p = [] ∨ (x.k = 1 ∨ x.k = 5) := by
      first
        | (right; assumption)
        | (left; exact mkS_inj.1 (by assumption))
    have hun : ¬ unuP x := by
      unfold unuP
      rcases hp0 with h | h
      · simp only [h, ne_eq, not_true_eq_false, and_false, or_false]
        omega
      · omega
    refine LoopK.mk' {i : Nat // i ≤ x.m.length ∧ ∀ j, j < i → ¬ badA x j}
      (fun ⟨i, _⟩ => ⟨[(1, .c (.p 1 0 0)), (73, .c (.sl 0 0 1 0 x.m.length c)), (74, .c (.i .i64 x.m.length)), (75, .c (.i .i64 (i : Nat)))], [.one (ints wa x.m c), .one (.cells true (encP (.sl 0 0 1 0 x.m.length c) x))]⟩) (fun k => x.m.length - k.1)
      ⟨⟨0, Nat.zero_le _, by intro j h; omega⟩, [0, 1], ?_⟩ ?_
    · (repeat' first | refine And.intro ?_ ?_ | exact xeC | fail)
    rintro ⟨i, hi, hno⟩
    repeat' (first | (fail_if_success (with_reducible refine xstp ?_)); first | ((with_reducible refine And.intro (fun (hb : _ = true) => ?_) (fun (hb : _ = false) => ?_)) <;> replace hb := xnC hb <;> (try first | exact xfC | exact bff hb (by assumption) | exact bff (by assumption) hb)) | (with_reducible intro hc; (try simp only [capsP, and_true] at hc); (try exact xfC)) | ((fail_if_success (with_reducible first | refine xgon ?_ | intro _)); (conv => whnf); (fail_if_success (fail_if_success (with_reducible first | refine xstp ?_ | refine xgon ?_ | intro _)))))
    all_goals try simp only [show ((i : Int) - 1).toNat = i - 1 by omega] at *
    all_goals first
      | (have hbad : badA x i := by unfold badA; omega
         have hil : i < x.m.length := by omega
         rw [show chk x = 2 by unfold chk; rw [if_neg (by simpa using hr), if_neg (by omega), if_neg hun, if_pos ⟨i, hil, hbad⟩]]
         refine FinK.mk ⟨[0], _, _, ⟨rfl, rfl⟩, ?_⟩; (repeat' first | refine And.intro ?_ ?_ | exact xeC | fail)
         done)
      | (have hil : i < x.m.length := by omega
         have hbad : ¬ badA x i := by unfold badA; omega
         refine ⟨⟨i + 1, by omega, fun j hj => by
           rcases (by omega : j < i ∨ j = i) with h | rfl
           · exact hno j h
           · exact hbad⟩, [0, 1], by simp only; omega, ?_⟩
         (repeat' first | refine And.intro ?_ ?_ | exact xeC | fail)
         done)
      | (have hil : i = x.m.length := by omega
         rw [show chk x = 0 by unfold chk; rw [if_neg (by simpa using hr), if_neg (by omega), if_neg hun, if_neg (fun ⟨j, h1, h2⟩ => hno j (by omega) h2)]]
         refine FinK.mk ⟨[0], _, _, ⟨rfl, rfl⟩, ?_⟩; (repeat' first | refine And.intro ?_ ?_ | exact xeC | fail)
         done)
  · skip
    have hr : rngP x := by assumption
    have hp0 : x.p = [] ∨ (x.k = 1 ∨ x.k = 5) := by
      first
        | (right; assumption)
        | (left; exact mkS_inj.1 (by assumption))
    have hun : ¬ unuP x := by
      unfold unuP
      rcases hp0 with h | h
      · simp only [h, ne_eq, not_true_eq_false, and_false, or_false]
        omega
      · omega
    refine LoopK.mk' {i : Nat // i ≤ x.m.length ∧ ∀ j, j < i → ¬ badA x j}
      (fun ⟨i, _⟩ => ⟨[(1, .c (.p 1 0 0)), (73, .c (.sl 0 0 1 0 x.m.length c)), (74, .c (.i .i64 x.m.length)), (75, .c (.i .i64 (i : Nat)))], [.one (ints wa x.m c), .one (.cells true (encP (.sl 0 0 1 0 x.m.length c) x))]⟩) (fun k => x.m.length - k.1)
      ⟨⟨0, Nat.zero_le _, by intro j h; omega⟩, [0, 1], ?_⟩ ?_
    · (repeat' first | refine And.intro ?_ ?_ | exact xeC | fail)
    rintro ⟨i, hi, hno⟩
    repeat' (first | (fail_if_success (with_reducible refine xstp ?_)); first | ((with_reducible refine And.intro (fun (hb : _ = true) => ?_) (fun (hb : _ = false) => ?_)) <;> replace hb := xnC hb <;> (try first | exact xfC | exact bff hb (by assumption) | exact bff (by assumption) hb)) | (with_reducible intro hc; (try simp only [capsP, and_true] at hc); (try exact xfC)) | ((fail_if_success (with_reducible first | refine xgon ?_ | intro _)); (conv => whnf); (fail_if_success (fail_if_success (with_reducible first | refine xstp ?_ | refine xgon ?_ | intro _)))))
    all_goals try simp only [show ((i : Int) - 1).toNat = i - 1 by omega] at *
    all_goals first
      | (have hbad : badA x i := by unfold badA; omega
         have hil : i < x.m.length := by omega
         rw [show chk x = 2 by unfold chk; rw [if_neg (by simpa using hr), if_neg (by omega), if_neg hun, if_pos ⟨i, hil, hbad⟩]]
         refine FinK.mk ⟨[0], _, _, ⟨rfl, rfl⟩, ?_⟩; (repeat' first | refine And.intro ?_ ?_ | exact xeC | fail)
         done)
      | (have hil : i < x.m.length := by omega
         have hbad : ¬ badA x i := by unfold badA; omega
         refine ⟨⟨i + 1, by omega, fun j hj => by
           rcases (by omega : j < i ∨ j = i) with h | rfl
           · exact hno j h
           · exact hbad⟩, [0, 1], by simp only; omega, ?_⟩
         (repeat' first | refine And.intro ?_ ?_ | exact xeC | fail)
         done)
      | (have hil : i = x.m.length := by omega
         rw [show chk x = 0 by unfold chk; rw [if_neg (by simpa using hr), if_neg (by omega), if_neg hun, if_neg (fun ⟨j, h1, h2⟩ => hno j (by omega) h2)]]
         refine FinK.mk ⟨[0], _, _, ⟨rfl, rfl⟩, ?_⟩; (repeat' first | refine And.intro ?_ ?_ | exact xeC | fail)
         done)
end Go.Proofs.Ytofcadbfjbefkaa


namespace Go.Proofs.Ytofcadbfjbefkaa
open Go.X
set_option linter.unusedSimpArgs false
set_option linter.unusedVariables false
end Go.Proofs.Ytofcadbfjbefkaa


namespace Go.Proofs.Ytofcadbfjbefkaa
open Go.Shelf
def lays189_ren : Go.Shelf.Ren := ⟨fun | 189 => 43 | 125 => 55 | 257 => 56 | 128 => 67 | 129 => 68 | 294 => 69 | 295 => 70 | 296 => 71 | 297 => 72 | 298 => 73 | 299 => 74 | 216 => 75 | 300 => 76 | 301 => 77 | 328 => 83 | 329 => 79 | 330 => 80 | 331 => 84 | 332 => 85 | 215 => 86 | 343 => 88 | n => n, fun | 28 => 38 | 3 => 3 | 46 => 103 | 0 => 0 | 51 => 45 | 53 => 118 | 4 => 4 | 183 => 111 | 182 => 110 | 131 => 43 | 5 => 5 | 9 => 9 | 218 => 124 | 222 => 128 | 228 => 132 | 229 => 133 | n => n, fun | n => n⟩
theorem lays189 : Go.Proofs.Lays.n189 Try.prog lays189_ren := {
  mixed := by kernel_rfl
  f125 := Try.func55.trans (congrArg some (by kernel_rfl))
  f128 := Try.func67.trans (congrArg some (by kernel_rfl))
  f129 := Try.func68.trans (congrArg some (by kernel_rfl))
  f189 := Try.func43.trans (congrArg some (by kernel_rfl))
  f215 := Try.func86.trans (congrArg some (by kernel_rfl))
  f216 := Try.func75.trans (congrArg some (by kernel_rfl))
  f257 := Try.func56.trans (congrArg some (by kernel_rfl))
  f294 := Try.func69.trans (congrArg some (by kernel_rfl))
  f295 := Try.func70.trans (congrArg some (by kernel_rfl))
  f296 := Try.func71.trans (congrArg some (by kernel_rfl))
  f297 := Try.func72.trans (congrArg some (by kernel_rfl))
  f298 := Try.func73.trans (congrArg some (by kernel_rfl))
  f299 := Try.func74.trans (congrArg some (by kernel_rfl))
  f300 := Try.func76.trans (congrArg some (by kernel_rfl))
  f301 := Try.func77.trans (congrArg some (by kernel_rfl))
  f328 := Try.func83.trans (congrArg some (by kernel_rfl))
  f329 := Try.func79.trans (congrArg some (by kernel_rfl))
  f330 := Try.func80.trans (congrArg some (by kernel_rfl))
  f331 := Try.func84.trans (congrArg some (by kernel_rfl))
  f332 := Try.func85.trans (congrArg some (by kernel_rfl))
  f343 := Try.func88.trans (congrArg some (by kernel_rfl))
  t0 := Try.underlying0
  a0 := Try.isAgg0
  z0 := Try.sizeOf0
  v0 := Try.zeroValue0
  t3 := Try.underlying3
  a3 := Try.isAgg3
  z3 := Try.sizeOf3
  v3 := Try.zeroValue3
  t4 := Try.underlying4
  a4 := Try.isAgg4
  z4 := Try.sizeOf4
  v4 := Try.zeroValue4
  t5 := Try.underlying5
  a5 := Try.isAgg5
  z5 := Try.sizeOf5
  v5 := Try.zeroValue5
  t9 := Try.underlying9
  a9 := Try.isAgg9
  z9 := Try.sizeOf9
  v9 := Try.zeroValue9
  t28 := Try.underlying38
  a28 := Try.isAgg38
  z28 := Try.sizeOf38
  v28 := Try.zeroValue38
  t46 := Try.underlying103
  a46 := Try.isAgg103
  z46 := Try.sizeOf103
  v46 := Try.zeroValue103
  t51 := Try.underlying45
  a51 := Try.isAgg45
  z51 := Try.sizeOf45
  v51 := Try.zeroValue45
  t53 := Try.underlying118
  a53 := Try.isAgg118
  z53 := Try.sizeOf118
  v53 := Try.zeroValue118
  t131 := Try.underlying43
  a131 := Try.isAgg43
  z131 := Try.sizeOf43
  v131 := Try.zeroValue43
  t182 := Try.underlying110
  a182 := Try.isAgg110
  z182 := Try.sizeOf110
  v182 := Try.zeroValue110
  t183 := Try.underlying111
  a183 := Try.isAgg111
  z183 := Try.sizeOf111
  v183 := Try.zeroValue111
  t218 := Try.underlying124
  a218 := Try.isAgg124
  z218 := Try.sizeOf124
  v218 := Try.zeroValue124
  t222 := Try.underlying128
  a222 := Try.isAgg128
  z222 := Try.sizeOf128
  v222 := Try.zeroValue128
  t228 := Try.underlying132
  a228 := Try.isAgg132
  z228 := Try.sizeOf132
  v228 := Try.zeroValue132
  t229 := Try.underlying133
  a229 := Try.isAgg133
  z229 := Try.sizeOf133
  v229 := Try.zeroValue133 }
open Go.X
theorem sortLaw : SortLaw Try.prog 43 (Value.int .i64) (fun l => l.mergeSort fun x y => decide (x ≤ y)) :=
  ⟨fun blk off cap zs w h1 h2 h3 => Any.slices_Sort_int lays189 blk off cap zs w h1 h2 h3, fun p cap w => Any.slices_Sort_int_none lays189 p cap w, fun l => List.length_mergeSort l⟩
def srtI (l : List Int) : List Int := l.mergeSort fun x y => decide (x ≤ y)
theorem cSort (e : Nat) (zs : List Int) (c : Nat) (hz : zs.length < 4611686018427387904) :
    Ctr Try.prog 43 [.c (.sl 0 0 1 0 zs.length c)] [.one (.row true false e 1 zs.length c (Go.X.rowOf Go.X.encI zs))] fun v h => v = .t [] ∧ h = [.one (.row true false e 1 zs.length c (Go.X.rowOf Go.X.encI (srtI zs)))] :=
  sort_ctr sortLaw (fun _ _ => by kernel_rfl) (fun x => .i .i64 x) (fun _ _ => rfl) (fun _ => rfl) false e zs c hz
end Go.Proofs.Ytofcadbfjbefkaa


namespace Go.Proofs.Ytofcadbfjbefkaa
open Go.X
set_option linter.unusedSimpArgs false
set_option linter.unusedVariables false
/-- A peer (a matched reader); its number is the name of its block. -/
structure Pr where
  (nd : Int) (rel : Bool) (st ac se : Int) (rq : List Int) (bg : Bool) (bt : Int)
/-- What a writer knows: samples, the last number, the map of its peers. -/
structure Ws where
  (l : List Smp) (la : Int) (M : List (Nat × Int)) (ck : Nat) (D : Nat → Option Pr)
def encPr (F y x : Nat) (p : Pr) (c : Nat) : List C := [.i .i64 x, .i .i64 p.nd, .b p.rel, .i .i64 p.st, .i .i64 p.ac, .i .i64 p.se, .sl F y 1 0 p.rq.length c, .b p.bg, .i .i64 p.bt]
def prC (F y x : Nat) (o : Option Pr) (c : Nat) : Ck := match o with | none => .no | some p => .cells true (encPr F y x p c)
def rqO (o : Option Pr) (c : Nat) : Ck := match o with | none => .no | some p => .row true false 3 1 p.rq.length c (Go.X.rowOf Go.X.encI p.rq)
abbrev prs (F : Nat) (D : Nat → Option Pr) (cf : Nat → Nat) : Fam := .many fun x => prC F x x (D x) (cf x)
abbrev rqs (D : Nat → Option Pr) (cf : Nat → Nat) : Fam := .many fun x => rqO (D x) (cf x)
abbrev peM (fm : Nat) (M : List (Nat × Int)) (ck : Nat) : Ck := .map true true ck M.length fun i => ((M.getD i default).1, .i (M.getD i default).2, .c (.p fm (M.getD i default).2.toNat 0))
abbrev wrc (fh fm : Nat) (id per la : Int) (q : Qos) : Ck := .cells true [.i .i64 id, .i .i64 per, .i .i64 la, .b q.rel, .b q.dur, .b q.keep, .i .i64 q.depth, .i .i64 q.dead, .i .i64 q.life, .i .i64 q.lease, .p fh 0 0, .mp fm 0]

theorem prC_rk (σ : List Sg) (N F y x : Nat) (o : Option Pr) (c : Nat) : (prC F y x o c).rk σ N = prC (key σ N F y).1 (key σ N F y).2 x o c := by
  cases o <;> rfl
theorem rqO_rk (σ : List Sg) (N : Nat) (o : Option Pr) (c : Nat) : (rqO o c).rk σ N = rqO o c := by
  cases o <;> rfl
theorem prC_le {σ : List Sg} {N N' F F' x c : Nat} {o : Option Pr} (h : key σ N' F x = (F', x)) : (prC F' x x o c).leK N ((prC F x x o c).rk σ N') True := by
  rw [prC_rk, h]
  cases o with
  | none => trivial
  | some p => simp [prC, encPr, Ck.leK, sameB, eqL, C.eqK, sameK, ifB, kNat]
theorem rqO_le {σ : List Sg} {N N' c : Nat} {o : Option Pr} : (rqO o c).leK N ((rqO o c).rk σ N') True := by
  rw [rqO_rk]
  cases o with
  | none => trivial
  | some p => exact ⟨rfl, rfl, rfl, rfl, Nat.le_refl _, rfl, fun _ _ => rfl, trivial⟩
theorem prC_bel {n F y x c : Nat} {o : Option Pr} (h : Nat.blt F n = true) : (prC F y x o c).belK n True := by
  cases o with
  | none => trivial
  | some p => show ifB _ True; simp [encPr, C.belB, h, ifB]
theorem rqO_bel {n c : Nat} {o : Option Pr} : (rqO o c).belK n True := by cases o <;> trivial
theorem prR_bel {σ : List Sg} {n N F F' x c : Nat} {o : Option Pr} (hk : key σ N F x = (F', x)) (h : Nat.blt F' n = true) : ((prC F x x o c).rk σ N).belK n True := by
  rw [prC_rk, hk]; exact prC_bel h
theorem rqR_bel {σ : List Sg} {n N c : Nat} {o : Option Pr} : ((rqO o c).rk σ N).belK n True := by rw [rqO_rk]; exact rqO_bel
theorem xmC {p : Prop} (h : p := by first | exact fun _ => trivial | exact fun x => prC_le rfl | exact fun x => rqO_le | exact fun x => prC_bel rfl | exact fun x => rqO_bel | exact fun x => prR_bel rfl rfl | exact fun x => rqR_bel | fail) : p := h

/-- What holds of the peers. -/
structure WOk (W : Ws) : Prop where
  a : ∀ i, i < W.M.length → (1 ≤ (W.M.getD i default).2 ∧ (W.M.getD i default).2 ≤ 1073741824) ∧ ∃ p, W.D (W.M.getD i default).2.toNat = some p
  b : ∀ x p, W.D x = some p → ∃ i, i < W.M.length ∧ (W.M.getD i default).2 = x ∧ 1 ≤ x
  ne : ∀ a b, a < b → b < W.M.length → (W.M.getD a default).2 ≠ (W.M.getD b default).2
  st : ∀ a b, a < b → b < W.M.length → (W.M.getD a default).1 ≠ (W.M.getD b default).1
  lt : ∀ i, i < W.M.length → (W.M.getD i default).1 < W.ck
def Ws.get (W : Ws) (n : Int) : Option Pr := if 1 ≤ n then W.D n.toNat else none
theorem getP_yes {W : Ws} (h : WOk W) {i : Nat} (hi : i < W.M.length) {w : Int} (hk : (W.M.getD i default).2 = w) : ∃ p, W.get w = some p ∧ W.D w.toNat = some p ∧ 1 ≤ w := by
  obtain ⟨⟨h1, _⟩, p, hp⟩ := h.a i hi
  rw [hk] at h1 hp
  exact ⟨p, by unfold Ws.get; rw [if_pos h1, hp], hp, h1⟩
theorem getP_no {W : Ws} (h : WOk W) {w : Int} (hno : ∀ i, i < W.M.length → (W.M.getD i default).2 ≠ w) : W.get w = none := by
  unfold Ws.get
  split
  · rename_i h1
    cases hD : W.D w.toNat with
    | none => rfl
    | some p =>
      obtain ⟨i, hi, hk, _⟩ := h.b _ _ hD
      exact absurd (hk.trans (Int.toNat_of_nonneg (by omega))) (hno i hi)
  · rfl
theorem nodup_leN : ∀ (n : Nat) (S : List Nat), S.Nodup → (∀ k ∈ S, k < n) → S.length ≤ n
  | 0, S, _, h => by
    cases S with
    | nil => exact Nat.le_refl _
    | cons a S => exact absurd (h a (List.mem_cons_self ..)) (Nat.not_lt_zero _)
  | n + 1, S, hn, h => by
    by_cases hm : n ∈ S
    · have h1 := nodup_leN n (S.erase n) (hn.erase n) (fun k hk => by
        have := (hn.mem_erase_iff).1 hk
        have := h k this.2
        omega)
      rw [List.length_erase_of_mem hm] at h1
      omega
    · have := nodup_leN n S hn (fun k hk => by
        have := h k hk
        have : k ≠ n := fun e => hm (e ▸ hk)
        omega)
      omega
/-- A range over the peers: what was seen. -/
structure Seen (W : Ws) (Q : List Nat) : Prop where
  nd : Q.Nodup
  lt : ∀ q ∈ Q, q < W.M.length
theorem Seen.le {W : Ws} {Q : List Nat} (h : Seen W Q) : Q.length ≤ W.M.length := nodup_leN _ _ h.nd h.lt
theorem Seen.next {W : Ws} {Q : List Nat} (h : Seen W Q) {i : Nat} (hi : i < W.M.length) (hc : (W.M.getD i default).1 ∉ Q.map fun q => (W.M.getD q default).1) : Seen W (Q ++ [i]) := by
  have hiQ : i ∉ Q := fun h => hc (List.mem_map.2 ⟨i, h, rfl⟩)
  refine ⟨List.nodup_append.2 ⟨h.nd, by simp, fun a ha b hb e => hiQ (by rw [List.mem_singleton.1 hb] at e; exact e ▸ ha)⟩, fun q hq => ?_⟩
  rcases List.mem_append.1 hq with hq | hq
  · exact h.lt q hq
  · rw [List.mem_singleton.1 hq]; exact hi
theorem Seen.all {W : Ws} {Q : List Nat} (hW : WOk W) (h : Seen W Q) (hc : ∀ i, i < W.M.length → (W.M.getD i default).1 ∈ Q.map fun q => (W.M.getD q default).1) : ∀ i, i < W.M.length → i ∈ Q := fun i hi => by
  obtain ⟨q, hq, e⟩ := List.mem_map.1 (hc i hi)
  have hq2 := h.lt q hq
  rcases (by omega : i < q ∨ q < i ∨ i = q) with h | h | h
  · exact absurd e.symm (hW.st i q h hq2)
  · exact absurd e (hW.st q i h hi)
  · exact h ▸ hq
/-- Does a peer need a sample; does one of them. -/
def ndP (sq : Int) (p : Pr) : Bool := (p.rel && decide (p.ac < sq)) || (!p.rel && decide (p.se < sq))
def ndB (sq : Int) (W : Ws) : Bool := W.M.any fun e => match W.D e.2.toNat with | some p => ndP sq p | none => false
theorem nd_yes {sq : Int} {W : Ws} {i : Nat} {p : Pr} (hi : i < W.M.length) (hp : W.D (W.M.getD i default).2.toNat = some p) (h : ndP sq p = true) : ndB sq W = true := by
  unfold ndB
  refine List.any_eq_true.2 ⟨W.M.getD i default, by rw [getD_at hi]; exact List.getElem_mem _, ?_⟩
  rw [hp]
  exact h
theorem nd_no {sq : Int} {W : Ws} (hW : WOk W) (h : ∀ i p, i < W.M.length → W.D (W.M.getD i default).2.toNat = some p → ndP sq p = false) : ndB sq W = false := by
  unfold ndB
  refine List.any_eq_false.2 fun e he => ?_
  obtain ⟨i, hi, rfl⟩ := List.mem_iff_getElem.1 he
  obtain ⟨_, p, hp⟩ := hW.a i hi
  have := h i p hi hp
  rw [getD_at hi] at hp
  rw [hp]
  simpa using this

set_option maxRecDepth 10000 in
set_option maxHeartbeats 4000000 in
theorem cneeded (id per la : Int) (q : Qos) (W : Ws) (cf : Nat → Nat) (sq : Int) (hW : WOk W) :
    Ctr Try.prog 20 [.c (.p 0 0 0), .c (.i .i64 sq)] [.one (wrc 1 2 id per la q), .one .no, .one (peM 3 W.M W.ck), prs 4 W.D cf, .one .no]
      fun v h => v = .c (.b (ndB sq W)) ∧ h = [.one (wrc 1 2 id per la q), .one .no, .one (peM 3 W.M W.ck), prs 4 W.D cf, .one .no] := by
  refine Ctr.mk' tbv mixed Try.func20 rfl rfl rfl (fun _ _ => by kernel_rfl) (by kernel_rfl) (by rfl) (by rfl) (by (repeat' first | refine And.intro ?_ ?_ | exact xeC | fail) <;> exact xmC) ?_
  repeat' (first | (fail_if_success (with_reducible refine xstp ?_)); first | (with_reducible intro hc; (try simp only [capsP, and_true] at hc); (try exact xfC)) | ((fail_if_success (with_reducible first | refine xgon ?_ | intro _)); (conv => whnf); (fail_if_success (fail_if_success (with_reducible first | refine xstp ?_ | refine xgon ?_ | intro _)))))
  refine LoopK.mk' {Q : List Nat // Seen W Q ∧ ∀ i ∈ Q, ∀ p, W.D (W.M.getD i default).2.toNat = some p → ndP sq p = false}
    (fun ⟨Q, _⟩ => ⟨[(1, .c (.i .i64 sq)), (11, .c (.p 5 0 0))], [.one (wrc 1 2 id per la q), .one .no, .one (peM 3 W.M W.ck), prs 4 W.D cf, .one .no, .one (.iter 2 0 W.ck (Q.map fun q => (W.M.getD q default).1))]⟩) (fun Q => W.M.length - Q.1.length)
    ⟨⟨[], ⟨by simp, by simp⟩, by simp⟩, [0, 1, 2, 3, 4, 5], ?_⟩ ?_
  · (repeat' first | refine And.intro ?_ ?_ | exact xeC | fail)
    all_goals (exact xmC)
  rintro ⟨Q, hQ, hno⟩
  have hQl := hQ.le
  repeat' (first | (fail_if_success (with_reducible refine xstp ?_)); first | (with_reducible refine Both.mk ?_ ?_) | ((with_reducible refine And.intro ?_ ?_); focus exact xoC) | (with_reducible intro hc; (try simp only [capsP, and_true] at hc); (try exact xfC)) | ((fail_if_success (with_reducible first | refine xgon ?_ | intro _)); (conv => whnf); (fail_if_success (fail_if_success (with_reducible first | refine xstp ?_ | refine Both.mk ?_ ?_ | refine xgon ?_ | intro _)))))
  · rename_i i hi
    have hQ' := hQ.next hi hc
    have hQl' := hQ'.le
    rw [List.length_append, List.length_singleton] at hQl'
    obtain ⟨_, p, hp⟩ := hW.a i hi
    repeat' (first | (fail_if_success (with_reducible refine xstp ?_)); first | ((with_reducible refine And.intro (fun (hb : _ = true) => ?_) (fun (hb : _ = false) => ?_)) <;> replace hb := xnC hb <;> (try first | exact xfC | exact bff hb (by assumption) | exact bff (by assumption) hb)) | (with_reducible refine Both.mk ?_ ?_) | ((with_reducible refine And.intro ?_ ?_); focus exact xoC) | ((with_reducible refine Or.inl ⟨?_, ?_, ?_⟩); (focus rfl); focus exact xaC) | ((with_reducible refine xwB ?_ ?_); focus exact xaC) | ((with_reducible refine xwC ?_ ?_); focus exact xaC) | ((with_reducible refine xwD ?_ ?_); focus exact xaC) | ((with_reducible refine xwE ?_ ?_); focus exact xaC) | (with_reducible intro hc; (try simp only [capsP, and_true] at hc); (try exact xfC)) | ((fail_if_success (with_reducible first | refine xgon ?_ | intro _)); (conv => whnf); (fail_if_success (fail_if_success (with_reducible first | refine xstp ?_ | refine Both.mk ?_ ?_ | refine xgon ?_ | intro _)))))
    refine ⟨i, hi, List.getLast?_concat, ?_⟩
    repeat' (first | (fail_if_success (with_reducible refine xstp ?_)); first | ((fail_if_success (with_reducible first | refine xgon ?_ | intro _)); (conv => whnf); (fail_if_success (fail_if_success (with_reducible first | refine xstp ?_ | refine xgon ?_ | intro _)))))
    refine ManyK.mk ⟨.cells true (encPr 4 (W.M.getD i default).2.toNat (W.M.getD i default).2.toNat p (cf (W.M.getD i default).2.toNat)), by simp only [hp]; rfl, ?_⟩
    repeat' (first | (fail_if_success (with_reducible refine xstp ?_)); first | ((with_reducible refine And.intro (fun (hb : _ = true) => ?_) (fun (hb : _ = false) => ?_)) <;> replace hb := xnC hb <;> (try first | exact xfC | exact bff hb (by assumption) | exact bff (by assumption) hb)) | ((fail_if_success (with_reducible first | refine xgon ?_ | intro _)); (conv => whnf); (fail_if_success (fail_if_success (with_reducible first | refine xstp ?_ | refine xgon ?_ | intro _)))))
    all_goals (
      refine ManyK.mk ⟨.cells true (encPr 4 (W.M.getD i default).2.toNat (W.M.getD i default).2.toNat p (cf (W.M.getD i default).2.toNat)), by simp only [hp]; rfl, ?_⟩
      repeat' (first | (fail_if_success (with_reducible refine xstp ?_)); first | ((with_reducible refine And.intro (fun (hb : _ = true) => ?_) (fun (hb : _ = false) => ?_)) <;> replace hb := xnC hb <;> (try first | exact xfC | exact bff hb (by assumption) | exact bff (by assumption) hb)) | ((fail_if_success (with_reducible first | refine xgon ?_ | intro _)); (conv => whnf); (fail_if_success (fail_if_success (with_reducible first | refine xstp ?_ | refine xgon ?_ | intro _)))))
      skip)
    all_goals try (
      refine ManyK.mk ⟨.cells true (encPr 4 (W.M.getD i default).2.toNat (W.M.getD i default).2.toNat p (cf (W.M.getD i default).2.toNat)), by simp only [hp]; rfl, ?_⟩
      repeat' (first | (fail_if_success (with_reducible refine xstp ?_)); first | ((with_reducible refine And.intro (fun (hb : _ = true) => ?_) (fun (hb : _ = false) => ?_)) <;> replace hb := xnC hb <;> (try first | exact xfC | exact bff hb (by assumption) | exact bff (by assumption) hb)) | ((fail_if_success (with_reducible first | refine xgon ?_ | intro _)); (conv => whnf); (fail_if_success (fail_if_success (with_reducible first | refine xstp ?_ | refine xgon ?_ | intro _)))))
      skip)
    all_goals try (
      refine ManyK.mk ⟨.cells true (encPr 4 (W.M.getD i default).2.toNat (W.M.getD i default).2.toNat p (cf (W.M.getD i default).2.toNat)), by simp only [hp]; rfl, ?_⟩
      repeat' (first | (fail_if_success (with_reducible refine xstp ?_)); first | ((with_reducible refine And.intro (fun (hb : _ = true) => ?_) (fun (hb : _ = false) => ?_)) <;> replace hb := xnC hb <;> (try first | exact xfC | exact bff hb (by assumption) | exact bff (by assumption) hb)) | (with_reducible refine Both.mk ?_ ?_) | ((with_reducible refine And.intro ?_ ?_); focus exact xoC) | ((with_reducible refine Or.inl ⟨?_, ?_, ?_⟩); (focus rfl); focus exact xaC) | ((with_reducible refine xwB ?_ ?_); focus exact xaC) | ((with_reducible refine xwC ?_ ?_); focus exact xaC) | ((with_reducible refine xwD ?_ ?_); focus exact xaC) | ((with_reducible refine xwE ?_ ?_); focus exact xaC) | (with_reducible intro hc; (try simp only [capsP, and_true] at hc); (try exact xfC)) | ((fail_if_success (with_reducible first | refine xgon ?_ | intro _)); (conv => whnf); (fail_if_success (fail_if_success (with_reducible first | refine xstp ?_ | refine Both.mk ?_ ?_ | refine xgon ?_ | intro _)))))
      skip)
    all_goals try (
      fail_if_success (with_reducible refine FinK.mk ⟨_, _, _, ?_, ?_⟩)
      fail_if_success (with_reducible refine Exists.intro ?_ ?_)
      repeat' (first | (fail_if_success (with_reducible refine xstp ?_)); first | ((with_reducible refine And.intro (fun (hb : _ = true) => ?_) (fun (hb : _ = false) => ?_)) <;> replace hb := xnC hb <;> (try first | exact xfC | exact bff hb (by assumption) | exact bff (by assumption) hb)) | (with_reducible refine Both.mk ?_ ?_) | ((with_reducible refine And.intro ?_ ?_); focus exact xoC) | ((with_reducible refine Or.inl ⟨?_, ?_, ?_⟩); (focus rfl); focus exact xaC) | ((with_reducible refine xwB ?_ ?_); focus exact xaC) | ((with_reducible refine xwC ?_ ?_); focus exact xaC) | ((with_reducible refine xwD ?_ ?_); focus exact xaC) | ((with_reducible refine xwE ?_ ?_); focus exact xaC) | (with_reducible intro hc; (try simp only [capsP, and_true] at hc); (try exact xfC)) | ((fail_if_success (with_reducible first | refine xgon ?_ | intro _)); (conv => whnf); (fail_if_success (fail_if_success (with_reducible first | refine xstp ?_ | refine Both.mk ?_ ?_ | refine xgon ?_ | intro _)))))
      skip)
    all_goals first
      | (have hn : ndP sq p = true := by first | (simp [ndP, *]; done) | (simp [ndP, *]; omega)
         rw [nd_yes hi hp hn]
         refine FinK.mk ⟨[0, 1, 2, 3, 4], _, _, ⟨rfl, rfl⟩, ?_⟩; (repeat' first | refine And.intro ?_ ?_ | exact xeC | fail)
         all_goals (exact xmC)
         done)
      | (have hn : ndP sq p = false := by first | (simp [ndP, *]; done) | (simp [ndP, *]; omega)
         refine ⟨⟨Q ++ [i], hQ', fun j hj p' hp' => ?_⟩, [0, 1, 2, 3, 4, 5], by simp only [List.length_append, List.length_singleton]; omega, ?_⟩
         · rcases List.mem_append.1 hj with hj | hj
           · exact hno j hj p' hp'
           · rw [List.mem_singleton.1 hj, hp] at hp'
             exact Option.some.inj hp' ▸ hn
         · (repeat' first | refine And.intro ?_ ?_ | exact xeC | fail)
           all_goals first
             | (exact xmC)
             | (rw [List.map_append]; rfl)
         done)
      | skip
    all_goals trace_state
  · rw [nd_no hW fun i p hi hp => hno i (hQ.all hW hc i hi) p hp]
    refine FinK.mk ⟨[0, 1, 2, 3, 4], _, _, ⟨rfl, rfl⟩, ?_⟩; (repeat' first | refine And.intro ?_ ?_ | exact xeC | fail)
    all_goals (exact xmC)
end Go.Proofs.Ytofcadbfjbefkaa


namespace Go.Proofs.Ytofcadbfjbefkaa
open Go.X
set_option linter.unusedSimpArgs false
set_option linter.unusedVariables false
def W0 : Ws := ⟨[], 0, [], 0, fun _ => none⟩
theorem W0_ok : WOk W0 := ⟨fun i hi => absurd hi (Nat.not_lt_zero i), fun x p h => (by cases h), fun a b _ hb => absurd hb (Nat.not_lt_zero b), fun a b _ hb => absurd hb (Nat.not_lt_zero b), fun i hi => absurd hi (Nat.not_lt_zero i)⟩
/-- A writer in memory, whole. -/
abbrev wB (id per : Int) (q : Qos) (W : Ws) (c : Nat) (cf : Nat → Nat) : List Fam :=
  [.one (wrc 1 2 id per W.la q), .one (hist 3 q W.l.length c), .one (peM 4 W.M W.ck), .one (smps true W.l c), prs 5 W.D cf, rqs W.D cf]
def idOk (id per : Int) : Prop := (1 ≤ id ∧ id ≤ 1073741824) ∧ 1 ≤ per ∧ per ≤ 1099511627776
instance (a b : Int) : Decidable (idOk a b) := by unfold idOk; infer_instance
theorem rH18oB0 {σ : List Sg} {H h' : List Fam} {v : T} {K : T → List Fam → Prop} {H' : List Fam} {v' : T} {N : Nat} (hk : K v' H') (hN : H.length = N := by (try simp only [↓List.length_cons, ↓List.length_nil, Nat.reduceAdd]) <;> rfl) (h : givesF σ N H σ h' = some H' := by (try simp (maxSteps := 1000000) only [givesF, setF, updF, Fam.zeroth, Fam.rk, Ck.rk, C.rk, E.rk, T.rk, key, List.map_cons, List.map_nil, List.cons_append, List.nil_append, List.length_cons, List.length_nil, Option.map_some, Option.bind_some, Nat.reduceAdd, Nat.zero_add, Nat.add_zero, Nat.add_sub_cancel_left, Int.toNat_natCast, reps, List.all_cons, List.all_nil, C.flat, List.append_eq, Bool.not_true, Bool.and_true, Bool.or_false, Bool.or_self, Bool.not_false, List.append_nil, Bool.and_self, ↓prC_rk, ↓rqO_rk, encQ]) <;> rfl) (hv : v.rk σ N = v' := by (try simp only [givesF, setF, updF, Fam.zeroth, Fam.rk, Ck.rk, C.rk, E.rk, T.rk, key, List.map_cons, List.map_nil, List.cons_append, List.nil_append, List.length_cons, List.length_nil, Option.map_some, Option.bind_some, Nat.reduceAdd, Nat.zero_add, Nat.add_zero, Nat.add_sub_cancel_left, Int.toNat_natCast, reps, List.all_cons, List.all_nil, C.flat, List.append_eq, Bool.not_true, Bool.and_true, Bool.or_false, Bool.or_self, Bool.not_false, List.append_nil, Bool.and_self, ↓prC_rk, ↓rqO_rk, encQ]) <;> rfl) : RetG σ H h' v K := ret_mk3 hN h hv hk
theorem cH18oB2 {P : Program} {F : Nat} {args : List T} {H : List Fam} {K : T → List Fam → Prop} {σ : List Sg} {nl : List Fam} {args0 : List T} {h0 : List Fam} {Q : T → List Fam → Prop} {H2 H1 : List Fam} {N n : Nat} (hc : Ctr P F args0 h0 Q) (hk : ∀ v h', Q v h' → capsP h' → RetG σ H2 h' v K) (hap : apart σ = true := by rfl) (hnl : nl.all nilB = true := by rfl) (h1 : H ++ nl = H1 := by first | exact List.append_nil _ | ((try simp only [List.cons_append, List.nil_append]) <;> rfl)) (hN : H1.length = N := by (try simp only [↓List.length_cons, ↓List.length_nil, Nat.reduceAdd]) <;> rfl) (hn : H.length = n := by (try simp only [↓List.length_cons, ↓List.length_nil, Nat.reduceAdd]) <;> rfl) (hH : givesF σ N H1 σ h0 = some H2 := by (try simp (maxSteps := 1000000) only [givesF, setF, updF, Fam.zeroth, Fam.rk, Ck.rk, C.rk, E.rk, T.rk, key, List.map_cons, List.map_nil, List.cons_append, List.nil_append, List.length_cons, List.length_nil, Option.map_some, Option.bind_some, Nat.reduceAdd, Nat.zero_add, Nat.add_zero, Nat.add_sub_cancel_left, Int.toNat_natCast, reps, List.all_cons, List.all_nil, C.flat, List.append_eq, Bool.not_true, Bool.and_true, Bool.or_false, Bool.or_self, Bool.not_false, List.append_nil, Bool.and_self, ↓prC_rk, ↓rqO_rk]) <;> rfl) (hle : leS n H1 σ N σ h0 (belsK N (h0.map (Fam.rk σ N)) (argsK n args (args0.map (T.rk σ N)) True)) := by repeat' first | refine And.intro ?_ ?_ | exact xeC | fail) : CallK P F args H K := CallK.mk3 hc hap hnl h1 hN hn hH hle hk
set_option maxRecDepth 10000 in
set_option maxHeartbeats 4000000 in
theorem cnewW (id per : Int) (q : Qos) : Ctr Try.prog 6 [.c (.i .i64 id), .a (encQ q), .c (.i .i64 per)] []
      fun v h => ((idOk id per ∧ okQ q) ∧ v = .t [.c (.p 0 0 0), .c (.i .i64 0)] ∧ h = wB id per q W0 0 fun _ => 0) ∨ (¬ (idOk id per ∧ okQ q) ∧ v = .t [.c .nilp, .c (.i .i64 4)] ∧ h = []) := by
  refine Ctr.mk' tbv mixed Try.func6 rfl rfl rfl (fun _ _ => by kernel_rfl) (by kernel_rfl) (by rfl) (by rfl) (by (repeat' first | refine And.intro ?_ ?_ | exact xeC | fail)) ?_
  repeat' (first | (fail_if_success (with_reducible refine xstp ?_)); first | ((with_reducible refine And.intro (fun (hb : _ = true) => ?_) (fun (hb : _ = false) => ?_)) <;> replace hb := xnC hb <;> (try first | exact xfC | exact bff hb (by assumption) | exact bff (by assumption) hb)) | (with_reducible intro hc; (try simp only [capsP, and_true] at hc); (try exact xfC)) | ((fail_if_success (with_reducible first | refine xgon ?_ | intro _)); (conv => whnf); (fail_if_success (fail_if_success (with_reducible first | refine xstp ?_ | refine xgon ?_ | intro _)))))
  all_goals try (
    refine FinK.mk ⟨[], _, _, .inr ⟨fun h => by have := h.1; unfold idOk at this; omega, rfl, rfl⟩, ?_⟩
    (repeat' first | refine And.intro ?_ ?_ | exact xeC | fail)
    done)
  have hi : idOk id per := by unfold idOk; omega
  refine cH18oB2 (σ := []) (nl := []) (inew q) ?_
  rintro v h' (⟨hq, rfl, rfl⟩ | ⟨hq, rfl, rfl⟩) hcaps
  · refine rH18oB0 ?_
    repeat' (first | (fail_if_success (with_reducible refine xstp ?_)); first | ((with_reducible refine And.intro (fun (hb : _ = true) => ?_) (fun (hb : _ = false) => ?_)) <;> replace hb := xnC hb <;> (try first | exact xfC | exact bff hb (by assumption) | exact bff (by assumption) hb)) | ((fail_if_success (with_reducible first | refine xgon ?_ | intro _)); (conv => whnf); (fail_if_success (fail_if_success (with_reducible first | refine xstp ?_ | refine xgon ?_ | intro _)))))
    refine FinK.mk ⟨[4, 1, 3, 2, 99, 98], _, _, .inl ⟨⟨hi, hq⟩, rfl, rfl⟩, ?_⟩
    (repeat' first | refine And.intro ?_ ?_ | exact xeC | fail)
    all_goals first | (exact xmC) | exact fun _ => rfl | exact fun i hi => absurd hi (Nat.not_lt_zero i) | skip
    all_goals trace_state
  · refine rH18oB0 ?_
    repeat' (first | (fail_if_success (with_reducible refine xstp ?_)); first | ((with_reducible refine And.intro (fun (hb : _ = true) => ?_) (fun (hb : _ = false) => ?_)) <;> replace hb := xnC hb <;> (try first | exact xfC | exact bff hb (by assumption) | exact bff (by assumption) hb)) | ((fail_if_success (with_reducible first | refine xgon ?_ | intro _)); (conv => whnf); (fail_if_success (fail_if_success (with_reducible first | refine xstp ?_ | refine xgon ?_ | intro _)))))
    refine FinK.mk ⟨[], _, _, .inr ⟨fun h => hq h.2, rfl, rfl⟩, ?_⟩
    (repeat' first | refine And.intro ?_ ?_ | exact xeC | fail)

/-! ### Acked, Unmatch -/
def Ws.acked (W : Ws) (r : Int) : Int := match W.get r with | some p => p.ac | none => 0
set_option maxRecDepth 10000 in
set_option maxHeartbeats 4000000 in
theorem cacked (id per la : Int) (q : Qos) (W : Ws) (cf : Nat → Nat) (r : Int) (hW : WOk W) :
    Ctr Try.prog 11 [.c (.p 0 0 0), .c (.i .i64 r)] [.one (wrc 1 2 id per la q), .one .no, .one (peM 3 W.M W.ck), prs 4 W.D cf, .one .no]
      fun v h => v = .c (.i .i64 (W.acked r)) ∧ h = [.one (wrc 1 2 id per la q), .one .no, .one (peM 3 W.M W.ck), prs 4 W.D cf, .one .no] := by
  refine Ctr.mk' tbv mixed Try.func11 rfl rfl rfl (fun _ _ => by kernel_rfl) (by kernel_rfl) (by rfl) (by rfl) (by (repeat' first | refine And.intro ?_ ?_ | exact xeC | fail) <;> exact xmC) ?_
  repeat' (first | (fail_if_success (with_reducible refine xstp ?_)); first | (with_reducible refine Both.mk ?_ ?_) | ((with_reducible refine And.intro ?_ ?_); focus exact xoC) | (with_reducible intro hc; (try simp only [capsP, and_true] at hc); (try exact xfC)) | ((fail_if_success (with_reducible first | refine xgon ?_ | intro _)); (conv => whnf); (fail_if_success (fail_if_success (with_reducible first | refine xstp ?_ | refine Both.mk ?_ ?_ | refine xgon ?_ | intro _)))))
  · rename_i i hi hk j hj
    obtain ⟨p, hm, hD, h1⟩ := getP_yes hW hj (Key.i.inj hc)
    have e1 : (W.M.getD j default).2 = r := Key.i.inj hc
    refine ManyK.mk ⟨.cells true (encPr 4 r.toNat r.toNat p (cf r.toNat)), by simp only [e1, hD]; rfl, ?_⟩
    repeat' (first | (fail_if_success (with_reducible refine xstp ?_)); first | ((fail_if_success (with_reducible first | refine xgon ?_ | intro _)); (conv => whnf); (fail_if_success (fail_if_success (with_reducible first | refine xstp ?_ | refine xgon ?_ | intro _)))))
    have e2 : W.acked r = p.ac := by unfold Ws.acked; rw [hm]
    rw [e2]
    refine FinK.mk ⟨[0, 1, 2, 3, 4], _, _, ⟨rfl, rfl⟩, ?_⟩; (repeat' first | refine And.intro ?_ ?_ | exact xeC | fail)
    all_goals (exact xmC)
  · exact absurd (by assumption) (hc _ (by assumption))
  · have hn := getP_no hW (w := r) fun i hi h => hc i hi (by rw [h])
    have e2 : W.acked r = 0 := by unfold Ws.acked; rw [hn]
    rw [e2]
    refine FinK.mk ⟨[0, 1, 2, 3, 4], _, _, ⟨rfl, rfl⟩, ?_⟩; (repeat' first | refine And.intro ?_ ?_ | exact xeC | fail)
    all_goals (exact xmC)
/-! ### Held -/
/-! ### Next -/
def cand (W : Ws) (x : Nat) : Option Int := match W.D x with | some p => if p.rel = true ∧ p.ac < W.la then some p.bt else none | none => none
/-- The least time of the heartbeats that are wanted, if there are any. -/
def IsNx (W : Ws) (S : Nat → Prop) (b : Int) (is : Bool) : Prop := (is = false ∧ b = 0 ∧ ∀ i, S i → cand W (W.M.getD i default).2.toNat = none) ∨
  (is = true ∧ (∃ i, S i ∧ cand W (W.M.getD i default).2.toNat = some b) ∧ ∀ i t, S i → cand W (W.M.getD i default).2.toNat = some t → b ≤ t)
theorem nx_skip {W : Ws} {Q : List Nat} {b : Int} {is : Bool} {i : Nat} (h : IsNx W (· ∈ Q) b is) (hi : cand W (W.M.getD i default).2.toNat = none) : IsNx W (· ∈ Q ++ [i]) b is := by
  rcases h with ⟨h1, h2, h3⟩ | ⟨h1, ⟨j, hj, h2⟩, h3⟩
  · refine .inl ⟨h1, h2, fun j hj => ?_⟩
    rcases List.mem_append.1 hj with hj | hj
    · exact h3 j hj
    · rw [List.mem_singleton.1 hj]; exact hi
  · refine .inr ⟨h1, ⟨j, List.mem_append_left _ hj, h2⟩, fun k t hk ht => ?_⟩
    rcases List.mem_append.1 hk with hk | hk
    · exact h3 k t hk ht
    · rw [List.mem_singleton.1 hk, hi] at ht; cases ht
theorem nx_worse {W : Ws} {Q : List Nat} {b t : Int} {is : Bool} {i : Nat} (h : IsNx W (· ∈ Q) b is) (hi : cand W (W.M.getD i default).2.toNat = some t) (h1 : is = true) (h2 : b ≤ t) : IsNx W (· ∈ Q ++ [i]) b is := by
  rcases h with ⟨h3, _⟩ | ⟨_, ⟨j, hj, h3⟩, h4⟩
  · rw [h1] at h3; cases h3
  · refine .inr ⟨h1, ⟨j, List.mem_append_left _ hj, h3⟩, fun k t' hk ht => ?_⟩
    rcases List.mem_append.1 hk with hk | hk
    · exact h4 k t' hk ht
    · rw [List.mem_singleton.1 hk, hi] at ht; rw [← Option.some.inj ht]; exact h2
theorem nx_better {W : Ws} {Q : List Nat} {b t : Int} {is : Bool} {i : Nat} (h : IsNx W (· ∈ Q) b is) (hi : cand W (W.M.getD i default).2.toNat = some t) (h2 : is = false ∨ t < b) : IsNx W (· ∈ Q ++ [i]) t true := by
  refine .inr ⟨rfl, ⟨i, List.mem_append_right _ (List.mem_singleton.2 rfl), hi⟩, fun k t' hk ht => ?_⟩
  rcases List.mem_append.1 hk with hk | hk
  · rcases h with ⟨_, _, h5⟩ | ⟨h4, _, h5⟩
    · rw [h5 k hk] at ht; cases ht
    · have := h5 k t' hk ht
      rcases h2 with h2 | h2
      · rw [h2] at h4; cases h4
      · omega
  · rw [List.mem_singleton.1 hk, hi] at ht; rw [← Option.some.inj ht]; exact Int.le_refl _
set_option maxRecDepth 10000 in
set_option maxHeartbeats 8000000 in
theorem cnext (id per : Int) (q : Qos) (W : Ws) (cf : Nat → Nat) (hW : WOk W) :
    Ctr Try.prog 12 [.c (.p 0 0 0)] [.one (wrc 1 2 id per W.la q), .one .no, .one (peM 3 W.M W.ck), prs 4 W.D cf, .one .no]
      fun v h => ∃ b is, IsNx W (· < W.M.length) b is ∧ v = .t [.c (.i .i64 b), .c (.b is)] ∧ h = [.one (wrc 1 2 id per W.la q), .one .no, .one (peM 3 W.M W.ck), prs 4 W.D cf, .one .no] := by
  refine Ctr.mk' tbv mixed Try.func12 rfl rfl rfl (fun _ _ => by kernel_rfl) (by kernel_rfl) (by rfl) (by rfl) (by (repeat' first | refine And.intro ?_ ?_ | exact xeC | fail) <;> exact xmC) ?_
  repeat' (first | (fail_if_success (with_reducible refine xstp ?_)); first | (with_reducible intro hc; (try simp only [capsP, and_true] at hc); (try exact xfC)) | ((fail_if_success (with_reducible first | refine xgon ?_ | intro _)); (conv => whnf); (fail_if_success (fail_if_success (with_reducible first | refine xstp ?_ | refine xgon ?_ | intro _)))))
  refine LoopK.mk' {k : List Nat × Int × Bool // Seen W k.1 ∧ IsNx W (· ∈ k.1) k.2.1 k.2.2}
    (fun ⟨(Q, b, is), _⟩ => ⟨[(0, .c (.p 0 0 0)), (4, .c (.i .i64 b)), (5, .c (.b is)), (14, .c (.p 5 0 0))], [.one (wrc 1 2 id per W.la q), .one .no, .one (peM 3 W.M W.ck), prs 4 W.D cf, .one .no, .one (.iter 2 0 W.ck (Q.map fun q => (W.M.getD q default).1))]⟩) (fun k => W.M.length - k.1.1.length)
    ⟨⟨([], 0, false), ⟨by simp, by simp⟩, .inl ⟨rfl, rfl, by simp⟩⟩, [0, 1, 2, 3, 4, 5], ?_⟩ ?_
  · (repeat' first | refine And.intro ?_ ?_ | exact xeC | fail)
    all_goals (exact xmC)
  rintro ⟨⟨Q, b, is⟩, hQ, hnx⟩
  simp only at hQ hnx
  have hQl := hQ.le
  repeat' (first | (fail_if_success (with_reducible refine xstp ?_)); first | (with_reducible refine Both.mk ?_ ?_) | ((with_reducible refine And.intro ?_ ?_); focus exact xoC) | (with_reducible intro hc; (try simp only [capsP, and_true] at hc); (try exact xfC)) | ((fail_if_success (with_reducible first | refine xgon ?_ | intro _)); (conv => whnf); (fail_if_success (fail_if_success (with_reducible first | refine xstp ?_ | refine Both.mk ?_ ?_ | refine xgon ?_ | intro _)))))
  rotate_left 1
  · refine FinK.mk ⟨[0, 1, 2, 3, 4], _, _, ⟨b, is, ?_, rfl, rfl⟩, ?_⟩
    · have hall := hQ.all hW hc
      rcases hnx with ⟨h1, h2, h3⟩ | ⟨h1, ⟨j, hj, h2⟩, h3⟩
      · exact .inl ⟨h1, h2, fun i hi => h3 i (hall i hi)⟩
      · exact .inr ⟨h1, ⟨j, hQ.lt j hj, h2⟩, fun i t hi => h3 i t (hall i hi)⟩
    · (repeat' first | refine And.intro ?_ ?_ | exact xeC | fail)
      all_goals (exact xmC)
  rename_i i hi
  have hQ' := hQ.next hi hc
  have hQl' := hQ'.le
  rw [List.length_append, List.length_singleton] at hQl'
  obtain ⟨_, p, hp⟩ := hW.a i hi
  repeat' (first | (fail_if_success (with_reducible refine xstp ?_)); first | ((with_reducible refine And.intro (fun (hb : _ = true) => ?_) (fun (hb : _ = false) => ?_)) <;> replace hb := xnC hb <;> (try first | exact xfC | exact bff hb (by assumption) | exact bff (by assumption) hb)) | (with_reducible refine Both.mk ?_ ?_) | ((with_reducible refine And.intro ?_ ?_); focus exact xoC) | ((with_reducible refine Or.inl ⟨?_, ?_, ?_⟩); (focus rfl); focus exact xaC) | ((with_reducible refine xwB ?_ ?_); focus exact xaC) | ((with_reducible refine xwC ?_ ?_); focus exact xaC) | ((with_reducible refine xwD ?_ ?_); focus exact xaC) | ((with_reducible refine xwE ?_ ?_); focus exact xaC) | (with_reducible intro hc; (try simp only [capsP, and_true] at hc); (try exact xfC)) | ((fail_if_success (with_reducible first | refine xgon ?_ | intro _)); (conv => whnf); (fail_if_success (fail_if_success (with_reducible first | refine xstp ?_ | refine Both.mk ?_ ?_ | refine xgon ?_ | intro _)))))
  refine ⟨i, hi, List.getLast?_concat, ?_⟩
  repeat' (first | (fail_if_success (with_reducible refine xstp ?_)); first | ((fail_if_success (with_reducible first | refine xgon ?_ | intro _)); (conv => whnf); (fail_if_success (fail_if_success (with_reducible first | refine xstp ?_ | refine xgon ?_ | intro _)))))
  refine ManyK.mk ⟨.cells true (encPr 4 (W.M.getD i default).2.toNat (W.M.getD i default).2.toNat p (cf (W.M.getD i default).2.toNat)), by simp only [hp]; rfl, ?_⟩
  repeat' (first | (fail_if_success (with_reducible refine xstp ?_)); first | ((with_reducible refine And.intro (fun (hb : _ = true) => ?_) (fun (hb : _ = false) => ?_)) <;> replace hb := xnC hb <;> (try first | exact xfC | exact bff hb (by assumption) | exact bff (by assumption) hb)) | ((fail_if_success (with_reducible first | refine xgon ?_ | intro _)); (conv => whnf); (fail_if_success (fail_if_success (with_reducible first | refine xstp ?_ | refine xgon ?_ | intro _)))))
  all_goals try (
    refine ManyK.mk ⟨.cells true (encPr 4 (W.M.getD i default).2.toNat (W.M.getD i default).2.toNat p (cf (W.M.getD i default).2.toNat)), by simp only [hp]; rfl, ?_⟩
    repeat' (first | (fail_if_success (with_reducible refine xstp ?_)); first | ((with_reducible refine And.intro (fun (hb : _ = true) => ?_) (fun (hb : _ = false) => ?_)) <;> replace hb := xnC hb <;> (try first | exact xfC | exact bff hb (by assumption) | exact bff (by assumption) hb)) | ((fail_if_success (with_reducible first | refine xgon ?_ | intro _)); (conv => whnf); (fail_if_success (fail_if_success (with_reducible first | refine xstp ?_ | refine xgon ?_ | intro _)))))
    skip)
  all_goals try (
    refine ManyK.mk ⟨.cells true (encPr 4 (W.M.getD i default).2.toNat (W.M.getD i default).2.toNat p (cf (W.M.getD i default).2.toNat)), by simp only [hp]; rfl, ?_⟩
    repeat' (first | (fail_if_success (with_reducible refine xstp ?_)); first | ((with_reducible refine And.intro (fun (hb : _ = true) => ?_) (fun (hb : _ = false) => ?_)) <;> replace hb := xnC hb <;> (try first | exact xfC | exact bff hb (by assumption) | exact bff (by assumption) hb)) | ((fail_if_success (with_reducible first | refine xgon ?_ | intro _)); (conv => whnf); (fail_if_success (fail_if_success (with_reducible first | refine xstp ?_ | refine xgon ?_ | intro _)))))
    skip)
  all_goals try (
    refine ManyK.mk ⟨.cells true (encPr 4 (W.M.getD i default).2.toNat (W.M.getD i default).2.toNat p (cf (W.M.getD i default).2.toNat)), by simp only [hp]; rfl, ?_⟩
    repeat' (first | (fail_if_success (with_reducible refine xstp ?_)); first | ((fail_if_success (with_reducible first | refine xgon ?_ | intro _)); (conv => whnf); (fail_if_success (fail_if_success (with_reducible first | refine xstp ?_ | refine xgon ?_ | intro _)))))
    skip)
  all_goals first
    | (have h5 : p.rel = false := by assumption
       have hn : cand W (W.M.getD i default).2.toNat = none := by unfold cand; rw [hp]; exact if_neg (fun h => by rw [h5] at h; cases h.1)
       have h2 := nx_skip hnx hn
       refine ⟨⟨(Q ++ [i], b, is), hQ', h2⟩, [0, 1, 2, 3, 4, 5], by simp only [List.length_append, List.length_singleton]; omega, ?_⟩
       (repeat' first | refine And.intro ?_ ?_ | exact xeC | fail)
       all_goals first
         | (exact xmC)
         | (rw [List.map_append]; rfl)
       done)
    | (have h6 : W.la ≤ p.ac := by assumption
       have hn : cand W (W.M.getD i default).2.toNat = none := by unfold cand; rw [hp]; exact if_neg (fun h => by have := h.2; omega)
       have h2 := nx_skip hnx hn
       refine ⟨⟨(Q ++ [i], b, is), hQ', h2⟩, [0, 1, 2, 3, 4, 5], by simp only [List.length_append, List.length_singleton]; omega, ?_⟩
       (repeat' first | refine And.intro ?_ ?_ | exact xeC | fail)
       all_goals first
         | (exact xmC)
         | (rw [List.map_append]; rfl)
       done)
    | (have hn : cand W (W.M.getD i default).2.toNat = some p.bt := by unfold cand; rw [hp]; exact if_pos ⟨by assumption, by assumption⟩
       have h6 : p.ac < W.la := by assumption
       have h7 : b ≤ p.bt := by assumption
       have h2 := nx_worse hnx hn (by assumption) h7
       refine ⟨⟨(Q ++ [i], b, is), hQ', h2⟩, [0, 1, 2, 3, 4, 5], by simp only [List.length_append, List.length_singleton]; omega, ?_⟩
       (repeat' first | refine And.intro ?_ ?_ | exact xeC | fail)
       all_goals first
         | (exact xmC)
         | (rw [List.map_append]; rfl)
       done)
    | (have hn : cand W (W.M.getD i default).2.toNat = some p.bt := by unfold cand; rw [hp]; exact if_pos ⟨by assumption, by assumption⟩
       have h2 := nx_better hnx hn (by first | exact .inl (by assumption) | exact .inr (by omega))
       refine ⟨⟨(Q ++ [i], p.bt, true), hQ', h2⟩, [0, 1, 2, 3, 4, 5], by simp only [List.length_append, List.length_singleton]; omega, ?_⟩
       (repeat' first | refine And.intro ?_ ?_ | exact xeC | fail)
       all_goals first
         | (exact xmC)
         | (rw [List.map_append]; rfl)
       done)
    | skip
  all_goals trace_state
end Go.Proofs.Ytofcadbfjbefkaa

