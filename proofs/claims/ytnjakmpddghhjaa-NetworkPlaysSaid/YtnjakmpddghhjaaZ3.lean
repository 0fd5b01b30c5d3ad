/- Part 3 of the texts that a walk of this program rests on: an abstract machine, its soundness, contracts of functions. No statement of the seat is proved in this file. -/
import Derived.Test.YtnjakmpddghhjaaZ2
import Derived.Deep.LoopGhost
import Derived.ProofKit
import Derived.SliceStrings
import Derived.SizedLaws
import Derived.Carry
import Derived.OpenShut
import Derived.Sort.Row
import Derived.Sort.Grow
import Derived.Test.YtnjakmpddghhjaaProg
import Derived.Shelf.Sort.Plain
import Derived.Shelf.Slices.In.SortNone
set_option linter.constructorNameAsVariable false
set_option linter.unusedVariables false
namespace Go.X
variable {cx : Cx} {β : Nm} {s : S} {a : Act} {w : World} {P : Program} {tb : Tb}

theorem bit_eq (L i : Nat) : bit L i = L.testBit i := by
  unfold bit Nat.testBit
  have e : Nat.land (Nat.shiftRight L i) 1 = 1 &&& (L >>> i) := Nat.and_comm (L >>> i) 1
  rw [e]
  cases h : Nat.beq (1 &&& (L >>> i)) 0 with
  | true => rw [Nat.eq_of_beq_eq_true h]; rfl
  | false => exact (bne_iff_ne.2 (Nat.ne_of_beq_eq_false h)).symm

theorem preds_bit (o : Oper) (k : Nat) : (preds o).testBit k = true ↔ ∃ e ∈ o.after, Region.binds .any e = true ∧ e.on = k := by
  unfold preds
  have key : ∀ (l : List Edge) (m : Nat), (l.foldl (fun m e => match Region.binds .any e with | true => Nat.lor m (Nat.pow 2 e.on) | false => m) m).testBit k = true ↔ (m.testBit k = true ∨ ∃ e ∈ l, Region.binds .any e = true ∧ e.on = k) := by
    intro l
    induction l with
    | nil => intro m; simp
    | cons e l ih =>
      intro m
      rw [List.foldl_cons, ih]
      cases hb : Region.binds .any e with
      | true =>
        simp only
        have : (Nat.lor m (Nat.pow 2 e.on)).testBit k = (m.testBit k || decide (e.on = k)) := by
          show (m ||| 2 ^ e.on).testBit k = _
          rw [Nat.testBit_or, Nat.testBit_two_pow]
        rw [this]
        simp only [Bool.or_eq_true, decide_eq_true_eq, List.mem_cons, exists_eq_or_imp, hb, true_and]
        exact or_assoc
      | false =>
        simp only
        constructor
        · rintro (h | ⟨e', he', h'⟩)
          · exact .inl h
          · exact .inr ⟨e', by simp [he'], h'⟩
        · rintro (h | ⟨e', he', h'⟩)
          · exact .inl h
          · rcases List.mem_cons.1 he' with rfl | he'
            · rw [hb] at h'; exact absurd h'.1 (by simp)
            · exact .inr ⟨e', he', h'⟩
  refine (key _ 0).trans ?_
  simp

theorem land_sub (p L : Nat) : Nat.beq (Nat.land p L) p = true ↔ ∀ k, p.testBit k = true → L.testBit k = true := by
  constructor
  · intro h k hk
    have e : p &&& L = p := Nat.eq_of_beq_eq_true h
    rw [← e, Nat.testBit_and] at hk
    exact (Bool.and_eq_true_iff.1 hk).2
  · intro h
    have e : p &&& L = p := by
      apply Nat.eq_of_testBit_eq
      intro k
      rw [Nat.testBit_and]
      cases hp : p.testBit k with
      | false => rfl
      | true => rw [h k hp]; rfl
    show Nat.beq (p &&& L) p = true
    rw [e]
    exact Nat.beq_refl p

structure Lst (arr : Array Oper) (L : Nat) (l : Array Bool) : Prop where
  size : l.size = arr.size
  get : ∀ i, i < arr.size → l[i]? = some (L.testBit i)
  lt : ∀ k, L.testBit k = true → k < arr.size

theorem Lst.set {arr : Array Oper} {L : Nat} {l : Array Bool} (h : Lst arr L l) {i : Nat} (hi : i < arr.size) : Lst arr (Nat.lor L (Nat.pow 2 i)) (l.setIfInBounds i true) := by
  have e : ∀ k, (Nat.lor L (Nat.pow 2 i)).testBit k = (L.testBit k || decide (i = k)) := by
    intro k
    show (L ||| 2 ^ i).testBit k = _
    rw [Nat.testBit_or, Nat.testBit_two_pow]
  refine ⟨by simp [h.size], fun k hk => ?_, fun k hk => ?_⟩
  · rw [e, Array.getElem?_setIfInBounds]
    by_cases hik : i = k
    · subst hik; simp [h.size, hi]
    · simp [hik, h.get k hk]
  · rw [e] at hk
    rcases (Bool.or_eq_true _ _).mp hk with hk | hk
    · exact h.lt k hk
    · simp at hk; omega

theorem rdy_iff {arr : Array Oper} {L : Nat} {l : Array Bool} (h : Lst arr L l) {i : Nat} {o : Oper} (ho : arr[i]? = some o) : rdy L i o = true ↔ i ∈ Region.ready .any arr l := by
  have hi : i < arr.size := (Array.getElem?_eq_some_iff.1 ho).1
  have hg : l.getD i true = L.testBit i := by
    have := h.get i hi
    rw [Array.getD_eq_getD_getElem?, this]; rfl
  have hgf : ∀ k, l.getD k false = L.testBit k := by
    intro k
    rw [Array.getD_eq_getD_getElem?]
    by_cases hk : k < arr.size
    · rw [h.get k hk]; rfl
    · rw [Array.getElem?_eq_none (by rw [h.size]; omega)]
      cases hb : L.testBit k with
      | false => rfl
      | true => exact absurd (h.lt k hb) hk
  rw [mem_ready]
  unfold rdy
  rw [Bool.and_eq_true, land_sub, bit_eq]
  constructor
  · rintro ⟨h1, h2⟩
    refine ⟨by rw [hg]; simpa using h1, o, ho, fun e he hb => ?_⟩
    rw [hgf]
    exact h2 _ ((preds_bit o _).2 ⟨e, he, hb, rfl⟩)
  · rintro ⟨h1, o', ho', h2⟩
    rw [ho] at ho'
    cases ho'
    refine ⟨by rw [hg] at h1; simp [h1], fun k hk => ?_⟩
    obtain ⟨e, he, hb, rfl⟩ := (preds_bit o k).1 hk
    have := h2 e he hb
    rwa [hgf] at this

theorem firstPure_of {L : Nat} : ∀ {l : List Oper} {i0 i : Nat} {o : Oper}, firstPure L l i0 = some (i, o) → ∃ j, i = i0 + j ∧ l[j]? = some o ∧ pureB o = true ∧ rdy L i o = true
  | [], _, _, _, h => by cases h
  | q :: r, i0, i, o, h => by
    unfold firstPure at h
    split at h
    · rename_i hb
      cases h
      obtain ⟨h1, h2⟩ := Bool.and_eq_true_iff.1 hb
      exact ⟨0, rfl, rfl, h1, h2⟩
    · obtain ⟨j, h1, h2⟩ := firstPure_of h
      exact ⟨j + 1, by omega, by simpa using h2⟩

theorem readyI_of {L : Nat} : ∀ {l : List Oper} {i0 : Nat} {i : Nat} {o : Oper}, (i, o) ∈ readyI L l i0 ↔ ∃ j, i = i0 + j ∧ l[j]? = some o ∧ rdy L i o = true
  | [], i0, i, o => by simp [readyI]
  | q :: r, i0, i, o => by
    have ih : (i, o) ∈ readyI L r (i0 + 1) ↔ ∃ j, i = i0 + 1 + j ∧ r[j]? = some o ∧ rdy L i o = true := readyI_of
    have tail : (∃ j, i = i0 + 1 + j ∧ r[j]? = some o ∧ rdy L i o = true) ↔ ∃ j, j ≠ 0 ∧ i = i0 + j ∧ (q :: r)[j]? = some o ∧ rdy L i o = true := by
      constructor
      · rintro ⟨j, h1, h2, h3⟩; exact ⟨j + 1, by omega, by omega, by simpa using h2, h3⟩
      · rintro ⟨j, h0, h1, h2, h3⟩
        obtain ⟨k, rfl⟩ := Nat.exists_eq_succ_of_ne_zero h0
        exact ⟨k, by omega, by simpa using h2, h3⟩
    unfold readyI
    split
    · rename_i hb
      rw [List.mem_cons, ih, tail]
      constructor
      · rintro (h | ⟨j, _, h⟩)
        · cases h; exact ⟨0, rfl, rfl, hb⟩
        · exact ⟨j, h⟩
      · rintro ⟨j, h1, h2, h3⟩
        cases j with
        | zero => left; simp at h2; subst h2; simp at h1; rw [h1]
        | succ j => right; exact ⟨j + 1, by omega, h1, h2, h3⟩
    · rename_i hb
      rw [ih, tail]
      constructor
      · rintro ⟨j, _, h⟩; exact ⟨j, h⟩
      · rintro ⟨j, h1, h2, h3⟩
        cases j with
        | zero => simp at h2; subst h2; simp at h1; subst h1; rw [h3] at hb; cases hb
        | succ j => exact ⟨j + 1, by omega, h1, h2, h3⟩

theorem ready_readyI {arr : Array Oper} {L : Nat} {l : Array Bool} (h : Lst arr L l) {i : Nat} : i ∈ Region.ready .any arr l ↔ ∃ o, arr[i]? = some o ∧ (i, o) ∈ readyI L arr.toList 0 := by
  constructor
  · intro hr
    obtain ⟨_, o, ho, _⟩ := mem_ready.1 hr
    exact ⟨o, ho, readyI_of.2 ⟨i, by omega, by rw [Array.getElem?_toList]; exact ho, (rdy_iff h ho).2 hr⟩⟩
  · rintro ⟨o, ho, hm⟩
    obtain ⟨j, hj, _, h3⟩ := readyI_of.1 hm
    exact (rdy_iff h ho).1 h3

/-- What is held: the laws' list beside the machine's. -/
def PendOk (β : Nm) (s : S) : List (Nat × Nat × Nat) → List (Nat × (World → Prop)) → Prop
  | [], [] => True
  | (i, f, x) :: p, (j, S) :: R => i = j ∧ (∀ w, (get s.h f x).holds β w (β f x) → S w) ∧ PendOk β s p R
  | _, _ => False

theorem PendOk.heap {β : Nm} {s s' : S} (hs : s'.h = s.h) : ∀ {p : List (Nat × Nat × Nat)} {R : List (Nat × (World → Prop))}, PendOk β s p R → PendOk β s' p R
  | [], [], _ => trivial
  | [], _ :: _, h => h.elim
  | (_, _, _) :: _, [], h => h.elim
  | (i, f, x) :: p, (j, S) :: R, h => ⟨h.1, by rw [hs]; exact h.2.1, PendOk.heap hs h.2.2⟩

theorem PendOk.now (hf : Fits β s.h w) : ∀ {p : List (Nat × Nat × Nat)} {R : List (Nat × (World → Prop))}, PendOk β s p R → ∀ r ∈ R, r.2 w
  | [], [], _, r, hr => by cases hr
  | [], _ :: _, h, _, _ => h.elim
  | (_, _, _) :: _, [], h, _, _ => h.elim
  | (i, f, x) :: p, (j, S) :: R, h, r, hr => by
    rcases List.mem_cons.1 hr with rfl | hr
    · exact h.2.1 w (hf.ck f x)
    · exact PendOk.now hf h.2.2 r hr

theorem keep_of {arr : Array Oper} {j : Nat} {o : Oper} (ho : arr[j]? = some o) {β' : Nm} {s' : S} (hw : Wf s) (hag : Agree s.h.length β β') : ∀ {p : List (Nat × Nat × Nat)} {R : List (Nat × (World → Prop))} {K : List (Nat × Nat × Nat) → Prop}, PendOk β s p R → keepK s s' o p K →
    ∃ p', K p' ∧ PendOk β' s' p' (R.filter fun r => !waits .any arr j r.1)
  | [], [], K, _, h => ⟨[], h, trivial⟩
  | [], _ :: _, K, hp, _ => hp.elim
  | (_, _, _) :: _, [], K, hp, _ => hp.elim
  | (i, f, x) :: p, (i', S) :: R, K, hp, h => by
    obtain ⟨rfl, hS, hp'⟩ := hp
    have hwt : waits .any arr j i = bit (preds o) i := by
      rw [bit_eq]
      unfold waits
      rw [ho]
      simp only [Option.map_some, Option.getD_some]
      rw [Bool.eq_iff_iff, preds_bit, Array.any_eq_true']
      constructor
      · rintro ⟨e, he, h⟩
        obtain ⟨h1, h2⟩ := Bool.and_eq_true_iff.1 h
        exact ⟨e, he, h1, by simpa using h2⟩
      · rintro ⟨e, he, h1, h2⟩
        exact ⟨e, he, by simp [h1, h2]⟩
    rw [keepK_cons] at h
    split at h
    · rename_i hb
      obtain ⟨p', hk, hp''⟩ := keep_of ho hw hag hp' h
      refine ⟨p', hk, ?_⟩
      rw [List.filter_cons, if_neg (by simp [hwt, hb])]
      exact hp''
    · rename_i hb
      have h1 := getK_of h
      have h2 := getK_of h1
      obtain ⟨hq, h3⟩ := h2
      obtain ⟨p', hk, hp''⟩ := keep_of ho hw hag hp' h3
      refine ⟨_, hk, ?_⟩
      rw [List.filter_cons, if_pos (by simp [hwt, hb])]
      refine ⟨rfl, fun w hh => hS w ?_, hp''⟩
      rw [← hq] at hh
      by_cases hf : f < s.h.length
      · rw [hag f x hf]
        exact Ck.holds_agree (n := s.h.length) (hw.h f x) (fun g y hg => (hag g y hg).symm) hh
      · have : get s.h f x = .no := by
          cases hc : get s.h f x <;> first | rfl | exact absurd (get_lt (by rw [hc]; simp)) hf
        rw [this]; trivial

theorem liftP_cons {o : Oper} {i k f x : Nat} {l : List (Nat × Nat × Nat)} : liftP o i ((k, f, x) :: l) = (match bit (preds o) k with | true => (i, f, x) :: liftP o i l | false => (k, f, x) :: liftP o i l) := rfl

/-- What is held, held for a later operation's sake. -/
theorem PendOk.lift {arr : Array Oper} {j : Nat} {o : Oper} (ho : arr[j]? = some o) {s : S} : ∀ {p : List (Nat × Nat × Nat)} {R : List (Nat × (World → Prop))}, PendOk β s p R →
    ∃ R', PendOk β s (liftP o j p) R' ∧ ∀ r ∈ R, r ∈ R' ∨ (waits .any arr j r.1 = true ∧ (j, r.2) ∈ R')
  | [], [], _ => ⟨[], trivial, fun r hr => by cases hr⟩
  | [], _ :: _, h => h.elim
  | (_, _, _) :: _, [], h => h.elim
  | (i, f, x) :: p, (i', S) :: R, h => by
    obtain ⟨rfl, h2, h3⟩ := h
    obtain ⟨R', h4, h5⟩ := PendOk.lift ho h3
    have hwt : waits .any arr j i = bit (preds o) i := by
      rw [bit_eq]
      unfold waits
      rw [ho]
      simp only [Option.map_some, Option.getD_some]
      cases hb : (preds o).testBit i with
      | true =>
        obtain ⟨e, he, h1, h2⟩ := (preds_bit o i).1 hb
        exact Array.any_eq_true'.2 ⟨e, he, by simp [h1, h2]⟩
      | false =>
        rw [Array.any_eq_false']
        intro e he hc
        obtain ⟨h1, h2⟩ := Bool.and_eq_true_iff.1 hc
        have := (preds_bit o i).2 ⟨e, he, h1, by simpa using h2⟩
        rw [hb] at this
        cases this
    rw [liftP_cons]
    cases hb : bit (preds o) i with
    | true =>
      refine ⟨(j, S) :: R', ⟨rfl, h2, h4⟩, fun r hr => ?_⟩
      rcases List.mem_cons.1 hr with rfl | hr
      · exact .inr ⟨hwt.trans hb, List.mem_cons_self ..⟩
      · rcases h5 r hr with h | ⟨h, h'⟩
        · exact .inl (List.mem_cons_of_mem _ h)
        · exact .inr ⟨h, List.mem_cons_of_mem _ h'⟩
    | false =>
      refine ⟨(i, S) :: R', ⟨rfl, h2, h4⟩, fun r hr => ?_⟩
      rcases List.mem_cons.1 hr with rfl | hr
      · exact .inl (List.mem_cons_self ..)
      · rcases h5 r hr with h | ⟨h, h'⟩
        · exact .inl (List.mem_cons_of_mem _ h)
        · exact .inr ⟨h, List.mem_cons_of_mem _ h'⟩

theorem held_of (hr : Rel cx β s a w) {op : Op} {i : Nat} {pend : List (Nat × Nat × Nat)} {K : List (Nat × Nat × Nat) → Prop} (h : heldK s op i pend K) :
    (∃ f x, reads s op = some (f, x) ∧ K ((i, f, x) :: pend)) ∨ (reads s op = none ∧ K pend) := by
  cases op with
  | load t x =>
    have h : evC s x fun v => match v with | .p f y _ => K ((i, f, y) :: pend) | .pe f y _ _ _ => K ((i, f, y) :: pend) | _ => False := h
    cases x with
    | tmp d =>
      obtain ⟨v, hv, h1⟩ := lk_of (K := fun v => match v with | .c r => (match r with | .p f y _ => K ((i, f, y) :: pend) | .pe f y _ _ _ => K ((i, f, y) :: pend) | _ => False) | _ => False) h
      cases v with
      | c r =>
        cases r with
        | p f y o => exact .inl ⟨f, y, by simp [reads, hv, C.keyOf], h1⟩
        | pe f y z e j => exact .inl ⟨f, y, by simp [reads, hv, C.keyOf], h1⟩
        | _ => exact h1.elim
      | _ => exact h1.elim
    | const v =>
      right
      unfold evC ev at h
      simp only at h
      split at h
      · rename_i r hr'
        unfold ofVal at hr'
        split at hr' <;> first | (cases hr'; exact h.elim) | cases hr'
      · exact h.elim
    | func f => exact h.elim
    | global g => exact h.elim
  | call c =>
    obtain ⟨callee, args, ats⟩ := c
    cases callee with
    | builtin b =>
      cases b with
      | len =>
        have h : (match args.toList with
          | [x] => evC s x fun v => match v with
            | .mp f y => K ((i, f, y) :: pend)
            | _ => K pend
          | _ => K pend) := h
        have hrd : reads s (.call { callee := .builtin .len, args := args, argTypes := ats }) = readsB s .len args.toList := rfl
        rw [hrd]
        split at h
        · rename_i x hx
          rw [hx]
          cases x with
          | tmp d =>
            obtain ⟨v, hv, h1⟩ := lk_of (K := fun v => match v with | .c r => (match r with | .mp f y => K ((i, f, y) :: pend) | _ => K pend) | _ => False) h
            cases v with
            | c r =>
              cases r with
              | mp f y => exact .inl ⟨f, y, by simp [readsB, hv], h1⟩
              | _ => exact .inr ⟨by simp [readsB, hv], h1⟩
            | _ => exact h1.elim
          | const v =>
            right
            refine ⟨rfl, ?_⟩
            unfold evC ev at h
            simp only at h
            split at h
            · rename_i r hr'
              unfold ofVal at hr'
              split at hr' <;> first | (cases hr'; exact h) | cases hr'
            · exact h.elim
          | func f => exact .inr ⟨rfl, h⟩
          | global g => exact h.elim
        · rename_i hne
          right
          refine ⟨?_, h⟩
          unfold readsB
          simp only
      | _ => exact .inr ⟨rfl, h⟩
    | _ => exact .inr ⟨rfl, h⟩
  | convert ts td x =>
    have h : evC s x fun v => match v with
      | .sl f y _ _ _ _ => K ((i, f, y) :: pend)
      | _ => K pend := h
    cases x with
    | tmp d =>
      obtain ⟨v, hv, h1⟩ := lk_of (K := fun v => match v with | .c r => (match r with | .sl f y _ _ _ _ => K ((i, f, y) :: pend) | _ => K pend) | _ => False) h
      cases v with
      | c r =>
        cases r with
        | sl f y z o n c => exact .inl ⟨f, y, by simp [reads, hv], h1⟩
        | _ => exact .inr ⟨by simp [reads, hv], h1⟩
      | _ => exact h1.elim
    | const v =>
      right
      refine ⟨rfl, ?_⟩
      unfold evC ev at h
      simp only at h
      split at h
      · rename_i r hr'
        unfold ofVal at hr'
        split at hr' <;> first | (cases hr'; exact h) | cases hr'
      · exact h.elim
    | func f => exact .inr ⟨rfl, h⟩
    | global g => exact h.elim
  | _ => exact .inr ⟨rfl, h⟩

theorem sep_of {arr : Array Oper} (h : sepAll arr = true) {i j : Nat} {oi oj : Oper} (hi : arr[i]? = some oi) (hj : arr[j]? = some oj) (hne : j ≠ i) (h1 : (preds oj).testBit i = false) (h2 : (preds oi).testBit j = false) : oi.apart arr oj = true := by
  have hil : i < arr.size := (Array.getElem?_eq_some_iff.1 hi).1
  have hjl : j < arr.size := (Array.getElem?_eq_some_iff.1 hj).1
  have := List.all_eq_true.1 (List.all_eq_true.1 h i (List.mem_range.2 hil)) j (List.mem_range.2 hjl)
  rw [hi, hj] at this
  simp only [bit_eq, h1, h2, Bool.false_or] at this
  rcases (Bool.or_eq_true _ _).mp this with h3 | h3
  · exact absurd (Nat.eq_of_beq_eq_true h3).symm hne
  · exact h3

theorem branch_of {step : Nat → Oper → Prop} : ∀ {l : List (Nat × Oper)}, branch step l → ∀ q ∈ l, step q.1 q.2
  | [], _, q, hq => by cases hq
  | [(i, o)], h, q, hq => by
    rcases List.mem_cons.1 hq with rfl | hq
    · exact h
    · cases hq
  | (i, o) :: q' :: r, h, q, hq => by
    rcases List.mem_cons.1 hq with rfl | hq
    · exact h.1
    · exact branch_of (l := q' :: r) h.2 q hq

theorem xdraw_wp {ops : List Oper} {arr : Array Oper} (harr : arr.toList = ops) (hv : Valid tb P) (hok : okDraw arr = true) {Q : Exit → Act → World → Prop} {K : S → Prop} {n0 : Nat} (hP : ∀ c a w, ¬ Q (.panic c) a w) (hQ : ∀ a w, Nx cx β n0 K a w → Q .normal a w) :
    ∀ (n L : Nat) (pend : List (Nat × Nat × Nat)) (s : S) (β' : Nm) (l : Array Bool) (R : List (Nat × (World → Prop))) (a : Act) (w : World), Lst arr L l → PendOk β' s pend R → Agree n0 β β' → n0 ≤ s.h.length → Rel cx β' s a w →
      xdraw P tb cx.N ops n L pend s K → wpR P .any arr Q n l R a w := by
  obtain ⟨hsel, hsep⟩ := Bool.and_eq_true_iff.1 hok
  intro n
  induction n with
  | zero =>
    intro L pend s β' l R a w hL hp hag hn hr h
    rw [xdraw_zero] at h
    split at h
    · rename_i hnil
      refine ⟨?_, hQ a w ⟨β', s, h, hr, hag, hn⟩⟩
      rw [List.eq_nil_iff_forall_not_mem]
      intro i hi
      obtain ⟨o, _, hm⟩ := (ready_readyI hL).1 hi
      rw [harr, hnil] at hm
      cases hm
    · exact h.elim
  | succ n ih =>
    intro L pend s β' l R a w hL hp hag hn hr h
    rw [xdraw_succ] at h
    split at h
    · rename_i i o hfp
      obtain ⟨j, hj, hlo, hpure, hrdy⟩ := firstPure_of hfp
      rw [Nat.zero_add] at hj
      subst hj
      have hao : arr[i]? = some o := by rw [← Array.getElem?_toList, harr]; exact hlo
      have hil : i < arr.size := (Array.getElem?_eq_some_iff.1 hao).1
      have hready := (rdy_iff hL hao).1 hrdy
      have hfree : ∀ j oj, arr[j]? = some oj → j ≠ i → l.getD j true = false → (∀ e ∈ oj.after, Region.binds .any e = true → e.on ≠ i) → o.apart arr oj = true := by
        intro j oj hoj hji hun hno
        refine sep_of hsep hao hoj hji ?_ ?_
        · cases hb : (preds oj).testBit i with
          | false => rfl
          | true =>
            obtain ⟨e, he, h1, h2⟩ := (preds_bit oj i).1 hb
            exact absurd h2 (hno e he h1)
        · cases hb : (preds o).testBit j with
          | false => rfl
          | true =>
            obtain ⟨h1, h2⟩ := Bool.and_eq_true_iff.1 hrdy
            have := (land_sub _ _).1 h2 j hb
            have hjl : j < arr.size := (Array.getElem?_eq_some_iff.1 hoj).1
            rw [Array.getD_eq_getD_getElem?, hL.get j hjl, this] at hun
            cases hun
      have hnow := PendOk.now hr.ft hp
      obtain ⟨s1, hs1, hr1, h1 | h1⟩ := guardK_of harr hr h
      · obtain ⟨t1, g1⟩ := s1
        obtain ⟨hwant, h2⟩ := h1
        have es1 : ∃ s1 : S, s1 = ⟨t1, g1⟩ := ⟨_, rfl⟩
        obtain ⟨s1, es1⟩ := es1
        rw [← es1] at hs1 hr1
        have h2 : heldK s1 o.op i (liftP o i pend) fun pend' => xpure tb s1 o.op fun v => putK cx.N s1.t s1.h o.dst v fun s' => xdraw P tb cx.N ops n (Nat.lor L (Nat.pow 2 i)) pend' s' K := by rw [es1]; exact h2
        obtain ⟨R1, hp1, hRR⟩ := (hp.heap hs1).lift hao
        have take : ∀ (S : World → Prop) (pend' : List (Nat × Nat × Nat)) (R' : List (Nat × (World → Prop))), PendOk β' s1 pend' R' → (R' = R1 ∨ R' = (i, S) :: R1) → S w → (∀ w, S w → ∀ f x, reads s1 o.op = some (f, x) → (get s1.h f x).holds β' w (β' f x)) → (R' = R1 → S = fun _ => True) →
            (xpure tb s1 o.op fun v => putK cx.N s1.t s1.h o.dst v fun s' => xdraw P tb cx.N ops n (Nat.lor L (Nat.pow 2 i)) pend' s' K) → wpR P .any arr Q (n + 1) l R a w := by
          intro S pend' R' hp' hR' hS hSr htriv h3
          obtain ⟨v, hrun, hvb, hput⟩ := xpure_of hv hr1.tm hr1.ft (xpure_wf (K' := fun v => v.bel s1.h.length ∧ _) hr1.wf (fun v hv h => ⟨hv, h⟩) h3)
          obtain ⟨s', ⟨hk, hs'⟩, hr'⟩ := hr1.put (dst := o.dst) (v := v) hvb (put_heap hput)
          have hrest := ih _ pend' s' β' _ R' _ w (hL.set hil) (hp'.heap hs') hag (by rw [hs', hs1]; exact hn) hr' hk
          refine wpR_first (S := S) (v := v.ren β') hao (Region.noSelect_spec hsel) (fun c a w hc => (hP _ _ _ hc).elim) n l R ((i, S) :: R1) a w hfree hready (.inl ⟨hwant, fun w' hw' => hrun w' (hSr w' hw')⟩) hS hnow (List.mem_cons_self ..) (fun r hr => (hRR r hr).imp (List.mem_cons_of_mem _) fun h => ⟨h.1, List.mem_cons_of_mem _ h.2⟩) ?_
          rcases hR' with rfl | rfl
          · rw [htriv rfl]; exact wpR_free _ _ _ i _ _ hrest
          · exact hrest
        rcases held_of hr1 h2 with ⟨f, x, hrd, h3⟩ | ⟨hrd, h3⟩
        · refine take (fun w' => (get s1.h f x).holds β' w' (β' f x)) ((i, f, x) :: liftP o i pend) ((i, fun w' => (get s1.h f x).holds β' w' (β' f x)) :: R1) ⟨rfl, fun w h => h, hp1⟩ (.inr rfl) (hr1.ft.ck f x) (fun w hw f' x' hrd' => ?_) (fun e => ?_) h3
          · rw [hrd] at hrd'; cases hrd'; exact hw
          · have := congrArg List.length e; simp at this
        · exact take (fun _ => True) (liftP o i pend) R1 hp1 (.inl rfl) trivial (fun w _ f x hrd' => by rw [hrd] at hrd'; cases hrd') (fun _ => rfl) h3
      · obtain ⟨hwant, h2⟩ := h1
        obtain ⟨R1, hp1, hRR⟩ := (hp.heap hs1).lift hao
        obtain ⟨s', hk, hs', hr'⟩ := skip_wp hr1 h2
        have hrest := ih _ _ s' β' _ R1 _ w (hL.set hil) (hp1.heap hs') hag (by rw [hs', hs1]; exact hn) hr' hk
        exact wpR_first (S := fun _ => True) (v := undef) hao (Region.noSelect_spec hsel) (fun c a w hc => (hP _ _ _ hc).elim) n l R ((i, fun _ => True) :: R1) a w hfree hready (.inr ⟨hwant, rfl⟩) trivial hnow (List.mem_cons_self ..) (fun r hr => (hRR r hr).imp (List.mem_cons_of_mem _) fun h => ⟨h.1, List.mem_cons_of_mem _ h.2⟩) (wpR_free _ _ _ i _ _ hrest)
    · split at h
      · rename_i hnil
        have hnone : Region.ready .any arr l = [] := by
          rw [List.eq_nil_iff_forall_not_mem]
          intro i hi
          obtain ⟨o, _, hm⟩ := (ready_readyI hL).1 hi
          rw [harr, hnil] at hm
          cases hm
        exact ⟨fun _ => hQ a w ⟨β', s, h, hr, hag, hn⟩, fun j hj => by rw [hnone] at hj; cases hj⟩
      · rename_i q ql hq
        refine ⟨fun hnone => ?_, fun j hj => ?_⟩
        · exfalso
          have hm : q ∈ readyI L ops 0 := by rw [hq]; exact List.mem_cons_self ..
          obtain ⟨i, o⟩ := q
          obtain ⟨k, hk, hlo, hrd⟩ := readyI_of.1 hm
          have hik : i = k := by omega
          subst hik
          have hao : arr[i]? = some o := by rw [← Array.getElem?_toList, harr]; exact hlo
          have := (rdy_iff hL hao).1 hrd
          rw [hnone] at this
          cases this
        · obtain ⟨o, hao, hm⟩ := (ready_readyI hL).1 hj
          rw [harr, hq] at hm
          have hst := branch_of h (j, o) hm
          have hil : j < arr.size := (Array.getElem?_eq_some_iff.1 hao).1
          have h1 := gop_wp (Q := Q) harr hv hr hst
          have next : ∀ a w, Nx cx β' s.h.length (fun s' => keepK s s' o pend fun pend' => xdraw P tb cx.N ops n (Nat.lor L (Nat.pow 2 j)) pend' s' K) a w →
              (∀ r ∈ R, waits .any arr j r.1 = false → r.2 w) ∧ wpR P .any arr Q n (l.setIfInBounds j true) (R.filter fun r => !waits .any arr j r.1) a w := by
            rintro a w ⟨β'', s', hk, hr', hag', hl'⟩
            obtain ⟨p', hk', hp'⟩ := keep_of hao hr.wf hag' hp hk
            refine ⟨fun r hr0 hw => PendOk.now hr'.ft hp' r (List.mem_filter.2 ⟨hr0, by simp [hw]⟩), ?_⟩
            exact ih _ p' s' β'' _ _ a w (hL.set hil) hp' (fun f x hf => (hag f x hf).trans (hag' f x (by omega))) (by omega) hr' hk'
          unfold wpOp
          simp only [hao]
          split at h1
          · rename_i hw
            rw [if_pos hw]
            exact .inl (Oper.wp_mono next h1)
          · rename_i hw
            rw [if_neg hw]
            exact next _ _ h1
end Go.X

set_option linter.constructorNameAsVariable false
set_option linter.unusedVariables false
namespace Go.X
variable {cx : Cx} {β : Nm} {s : S} {a : Act} {w : World} {P : Program} {tb : Tb}

/-- A loop by an invariant: a family of states, with a measure. -/
structure LoopK (m : Nat) (body : S → (S → Prop) → Prop) (s : S) : Prop where
  ex : ∃ (ι : Type) (I : ι → S) (μ : ι → Nat), (∃ i σ, entP m σ s (I i)) ∧ ∀ i, capsP (I i).h → body (I i) fun s' => ∃ j σ, μ j < μ i ∧ entP m σ s' (I j)

theorem LoopK.mk' {m : Nat} {body : S → (S → Prop) → Prop} {s : S} (ι : Type) (I : ι → S) (μ : ι → Nat) (h0 : ∃ i σ, entP m σ s (I i)) (h : ∀ i, capsP (I i).h → body (I i) fun s' => ∃ j σ, μ j < μ i ∧ entP m σ s' (I j)) : LoopK m body s := ⟨ι, I, μ, h0, h⟩

def condK (s : S) (q : Operand) (A B : S → Prop) : Prop :=
  match q with
  | .tmp d => match s with
    | ⟨t0, h0⟩ => lk t0 d fun v => match v with
      | .c .tt => A ⟨t0, h0⟩
      | .c .ff => B ⟨t0, h0⟩
      | .c (.b b) => (b = true → A ⟨(d, .c .tt) :: t0, h0⟩) ∧ (b = false → B ⟨(d, .c .ff) :: t0, h0⟩)
      | _ => False
  | .const v => match v with
    | .bool true => A s
    | .bool false => B s
    | _ => False
  | _ => False

def wpC (P : Program) (tb : Tb) (N m : Nat) (c : Code) : S → (S → Prop) → (Nat → S → Prop) → (S → Prop) → Prop :=
  Code.rec (motive := fun _ => S → (S → Prop) → (Nat → S → Prop) → (S → Prop) → Prop)
    (fun s Kn _ _ => Kn s)
    (fun _ ops draw s Kn _ _ => match draw with
      | false => xops P tb N ops.toList ops.toList s Kn
      | true => xdraw P tb N ops.toList ops.toList.length 0 [] s Kn)
    (fun _ _ iha ihb s Kn Kx Kr => iha s (fun s => ihb s Kn Kx Kr) Kx Kr)
    (fun q _ _ iha ihb s Kn Kx Kr => condK s q (fun s => iha s Kn Kx Kr) (fun s => ihb s Kn Kx Kr))
    (fun id _ ih s Kn Kx Kr => ih s Kn (fun id' s' => match Nat.beq id' id with
      | true => Kn s'
      | false => Kx id' s') Kr)
    (fun _ ih s _ Kx Kr => LoopK m (fun s' K => ih s' K Kx Kr) s)
    (fun _ _ _ _ _ _ _ _ _ _ => False)
    (fun id s _ Kx _ => Kx id s)
    (fun _ _ _ _ _ _ => False)
    (fun _ s Kn _ _ => Kn s)
    (fun _ _ _ _ _ => False)
    (fun s _ _ Kr => Kr s)
    (fun _ _ _ _ _ => False) c

/-- What is asked of code, once and for all. -/
def okC : Code → Bool
  | .region _ ops draw => match draw with
    | false => true
    | true => okDraw ops
  | .seq a b => okC a && okC b
  | .cond _ a b => okC a && okC b
  | .block _ b => okC b
  | .loop b => okC b
  | _ => true

def Nk (cx : Cx) (K : S → Prop) (a : Act) (w : World) : Prop := ∃ β s, K s ∧ Rel cx β s a w

def post (cx : Cx) (Kn : S → Prop) (Kx : Nat → S → Prop) (Kr : S → Prop) : Exit → Act → World → Prop
  | .normal, a, w => Nk cx Kn a w
  | .exit id, a, w => Nk cx (Kx id) a w
  | .ret, a, w => Nk cx Kr a w
  | _, _, _ => False

theorem Rel.drew (hr : Rel cx β s a w) : Rel cx β s a { w with drawn := w.drawn + 1 } := by
  refine ⟨hr.dfr, hr.sz, hr.tm, ⟨fun f x => Ck.holds_block (hr.ft.ck f x) rfl, hr.ft.sep⟩, hr.wf, hr.ml, hr.pin, hr.os, hr.tape, hr.out, hr.hs, hr.fr, hr.ow, hr.kn⟩

theorem condK_of {q : Operand} {A B : S → Prop} (hr : Rel cx β s a w) (h : condK s q A B) : ∃ b s', a.eval q = .bool b ∧ Rel cx β s' a w ∧ (b = true → A s') ∧ (b = false → B s') := by
  obtain ⟨t0, h0⟩ := s
  cases q with
  | tmp d =>
    obtain ⟨v, hv, h1⟩ := lk_of h
    have he : a.eval (.tmp d) = v.ren β := by have := hr.tm.tm d v hv; simp [Act.eval, this]
    split at h1
    · exact ⟨true, ⟨t0, h0⟩, he, hr, fun _ => h1, fun e => by cases e⟩
    · exact ⟨false, ⟨t0, h0⟩, he, hr, fun e => (by cases e), fun _ => h1⟩
    · rename_i b
      cases hb : b with
      | true => exact ⟨true, ⟨(d, .c .tt) :: t0, h0⟩, by rw [he, hb]; rfl, hr.same hv (by simp [T.ren, C.ren, hb]) trivial, fun _ => h1.1 hb, fun e => by cases e⟩
      | false => exact ⟨false, ⟨(d, .c .ff) :: t0, h0⟩, by rw [he, hb]; rfl, hr.same hv (by simp [T.ren, C.ren, hb]) trivial, fun e => (by cases e), fun _ => h1.2 hb⟩
    · exact h1.elim
  | const v =>
    unfold condK at h
    simp only at h
    split at h
    · exact ⟨true, ⟨t0, h0⟩, rfl, hr, fun _ => h, fun e => by cases e⟩
    · exact ⟨false, ⟨t0, h0⟩, rfl, hr, fun e => (by cases e), fun _ => h⟩
    · exact h.elim
  | func f => exact h.elim
  | global g => exact h.elim

theorem wpC_of (hv : Valid tb P) (hmx : P.follows .mixedOrders = true) : ∀ (c : Code) (s : S) (Kn : S → Prop) (Kx : Nat → S → Prop) (Kr : S → Prop) (β : Nm) (a : Act) (w : World), okC c = true → Rel cx β s a w → wpC P tb cx.N cx.m c s Kn Kx Kr → c.wp P (post cx Kn Kx Kr) a w := by
  intro c
  induction c with
  | skip => intro s Kn Kx Kr β a w _ hr h; exact wp_skip ⟨β, s, h, hr⟩
  | label l => intro s Kn Kx Kr β a w _ hr h; exact wp_label ⟨β, s, h, hr⟩
  | region id ops draw =>
    intro s Kn Kx Kr β a w hok hr h
    cases draw with
    | false =>
      refine wp_region_list (xops_wp (n := s.h.length) rfl hv (β := β) (K := Kn) ?_ ops.toList β s a w (fun _ _ _ => rfl) (Nat.le_refl _) hr h)
      rintro a w ⟨β', s', hk, hr', _⟩
      exact ⟨β', s', hk, hr'⟩
    | true =>
      refine wp_region_any hmx (wpR_sound _ _ [] _ _ ?_)
      have hlen : ops.toList.length = ops.size := rfl
      refine xdraw_wp (n0 := s.h.length) (β := β) (K := Kn) rfl hv hok (fun c a w h => h) ?_ ops.size 0 [] s β _ [] a _ ⟨by simp, fun i hi => by simp [hi], fun k hk => by simp at hk⟩ trivial (fun _ _ _ => rfl) (Nat.le_refl _) hr.drew h
      rintro a w ⟨β', s', hk, hr', _⟩
      exact ⟨β', s', hk, hr'⟩
  | seq x y ihx ihy =>
    intro s Kn Kx Kr β a w hok hr h
    obtain ⟨hx, hy⟩ := Bool.and_eq_true_iff.1 hok
    refine wp_seq (wp_mono (ihx s _ Kx Kr β a w hx hr h) ?_)
    intro e a w hq
    cases e with
    | normal =>
      obtain ⟨β', s', hk, hr'⟩ := hq
      exact ihy s' Kn Kx Kr β' a w hy hr' hk
    | _ => exact hq
  | cond q x y ihx ihy =>
    intro s Kn Kx Kr β a w hok hr h
    obtain ⟨hx, hy⟩ := Bool.and_eq_true_iff.1 hok
    have h : condK s q (fun s => wpC P tb cx.N cx.m x s Kn Kx Kr) (fun s => wpC P tb cx.N cx.m y s Kn Kx Kr) := h
    obtain ⟨b, s', he, hr', hA, hB⟩ := condK_of hr h
    cases b with
    | true => exact wp_cond_true he (ihx s' Kn Kx Kr β a w hx hr' (hA rfl))
    | false => exact wp_cond_false he (ihy s' Kn Kx Kr β a w hy hr' (hB rfl))
  | block id b ih =>
    intro s Kn Kx Kr β a w hok hr h
    refine wp_block (wp_mono (ih s Kn _ Kr β a w hok hr h) ?_)
    intro e a w hq
    cases e with
    | exit id' =>
      obtain ⟨β', s', hk, hr'⟩ := hq
      simp only [Exit.inBlock]
      split at hk
      · rename_i hb
        rw [if_pos (Nat.eq_of_beq_eq_true hb)]
        exact ⟨β', s', hk, hr'⟩
      · rename_i hb
        rw [if_neg (Nat.ne_of_beq_eq_false hb)]
        exact ⟨β', s', hk, hr'⟩
    | _ => exact hq
  | loop b ih =>
    intro s Kn Kx Kr β a w hok hr h
    obtain ⟨ι, I, μ, ⟨i0, σ0, h0⟩, hround⟩ := h.ex
    obtain ⟨β0, hr0⟩ := entP_of hr h0
    refine wp_loop_ghost (fun n a w => ∃ i β, μ i = n ∧ Rel cx β (I i) a w) (μ i0) ⟨i0, β0, rfl, hr0⟩ ?_
    rintro n a w ⟨i, β, rfl, hr⟩
    refine wp_mono (ih (I i) _ Kx Kr β a w hok hr (hround i (capsP_of hr.ft))) ?_
    intro e a w hq
    cases e with
    | normal =>
      obtain ⟨β', s', ⟨j, σ, hlt, hj⟩, hr'⟩ := hq
      obtain ⟨β'', hr''⟩ := entP_of hr' hj
      exact ⟨μ j, hlt, j, β'', rfl, hr''⟩
    | _ => exact hq
  | exit id => intro s Kn Kx Kr β a w _ hr h; exact wp_exit ⟨β, s, h, hr⟩
  | ret => intro s Kn Kx Kr β a w _ hr h; exact wp_ret ⟨β, s, h, hr⟩
  | _ => intro s Kn Kx Kr β a w _ hr h; exact h.elim

/-! ### Results -/
def resK (tb : Tb) (s : S) : List ResultVar → (List T → Prop) → Prop
  | [], K => K []
  | .tmp t :: r, K => lk s.t t fun v => resK tb s r fun l => K (v :: l)
  | .cell x t :: r, K => lk s.t x fun u => match u with
    | .c ad => load tb s t ad fun v => resK tb s r fun l => K (v :: l)
    | _ => False

def toEs : List T → (List E → Prop) → Prop
  | [], K => K []
  | .c v :: r, K => toEs r fun l => K (.c v :: l)
  | .a v :: r, K => toEs r fun l => K (.a v :: l)
  | .t _ :: _, _ => False

def oneK (l : List T) (K : T → Prop) : Prop :=
  match l with
  | [v] => K v
  | l => toEs l fun es => K (.t es)

/-- The end: a result and a heap that the contract allows. -/
structure FinK (m : Nat) (s : S) (v : T) (Q : T → List Fam → Prop) : Prop where
  ex : ∃ (σ : List Sg) (v' : T) (h' : List Fam), Q v' h' ∧ entH m σ s.h h' (ifB (v'.belB h'.length) (v.eqK s.h.length (v'.rk σ 0) True))

def resV (tmps : Array Value) (r : ResultVar) : Sem Value :=
  match r with
  | .tmp t => pure (tmps.getD t undef)
  | .cell x t => do loadVar t (← asAddr (tmps.getD x undef))

theorem resK_of (hv : Valid tb P) (hr : Rel cx β s a w) : ∀ {rs : List ResultVar} {K : List T → Prop}, resK tb s rs K →
    ∃ vs, (rs.mapM (resV a.tmps)).run P w = .ok (vs.map (T.ren β)) w ∧ K vs
  | [], K, h => ⟨[], by rw [List.mapM_nil]; rfl, h⟩
  | .tmp t :: rs, K, h => by
    obtain ⟨v, hf, h1⟩ := lk_of h
    obtain ⟨vs, hrun, hk⟩ := resK_of hv hr h1
    have e : a.tmps.getD t undef = v.ren β := by have := hr.tm.tm t v hf; simp [this]
    refine ⟨v :: vs, ?_, hk⟩
    rw [List.mapM_cons]
    simp only [Sem.run_bind, resV, Sem.run_pure, Result.andThen_ok, hrun, e, List.map_cons]
  | .cell x t :: rs, K, h => by
    obtain ⟨u, hf, h1⟩ := lk_of h
    have e : a.tmps.getD x undef = u.ren β := by have := hr.tm.tm x u hf; simp [this]
    cases u with
    | c ad =>
      obtain ⟨f, y, hkey, r, hld, h2⟩ := load_of (β := β) hv h1
      obtain ⟨vs, hrun, hk⟩ := resK_of hv hr h2
      refine ⟨r :: vs, ?_, hk⟩
      have hl := hld w (hr.ft.ck f y)
      rw [List.mapM_cons]
      have e2 : (resV a.tmps (.cell x t)).run P w = .ok (r.ren β) w := by
        unfold resV
        simp only
        rw [e]
        cases ad <;> first | (cases hkey; done) | skip
        · simpa [Instr.loadAt, Instr.sureAddr, asAddr, T.ren, C.ren] using hl
        · simpa [Instr.loadAt, Instr.sureAddr, asAddr, T.ren, C.ren] using hl
      simp only [Sem.run_bind, e2, Sem.run_pure, Result.andThen_ok, hrun, List.map_cons]
    | _ => exact h1.elim

theorem resK_wf (hw : Wf s) : ∀ {rs : List ResultVar} {K K' : List T → Prop}, (∀ vs : List T, (∀ v ∈ vs, v.bel s.h.length) → K vs → K' vs) → resK tb s rs K → resK tb s rs K'
  | [], K, K', hk, h => hk [] (by simp) h
  | .tmp t :: rs, K, K', hk, h => lk_wf hw.t (fun v hv h => resK_wf hw (fun vs hvs h => hk _ (by
      intro u hu
      rcases List.mem_cons.1 hu with rfl | hu
      · exact hv
      · exact hvs u hu) h) h) h
  | .cell x t :: rs, K, K', hk, h => lk_wf hw.t (fun v hv h => by
      cases v with
      | c ad => exact load_wf hw (fun v hv h => resK_wf hw (fun vs hvs h => hk _ (by
          intro u hu
          rcases List.mem_cons.1 hu with rfl | hu
          · exact hv
          · exact hvs u hu) h) h) h
      | _ => exact h.elim) h

theorem toEs_of : ∀ {l : List T} {K : List E → Prop}, toEs l K → ∃ es, l.map (T.ren β) = es.map (E.ren β) ∧ (∀ n, (∀ v ∈ l, v.bel n) → ∀ e ∈ es, e.bel n) ∧ K es
  | [], K, h => ⟨[], rfl, by simp, h⟩
  | .c v :: r, K, h => by
    obtain ⟨es, h1, h2, hk⟩ := toEs_of (l := r) h
    exact ⟨.c v :: es, by simp [h1, T.ren, E.ren], fun n hn e he => by
      rcases List.mem_cons.1 he with rfl | he
      · exact hn (.c v) (by simp)
      · exact h2 n (fun v hv => hn v (by simp [hv])) e he, hk⟩
  | .a v :: r, K, h => by
    obtain ⟨es, h1, h2, hk⟩ := toEs_of (l := r) h
    exact ⟨.a v :: es, by simp [h1, T.ren, E.ren], fun n hn e he => by
      rcases List.mem_cons.1 he with rfl | he
      · exact hn (.a v) (by simp)
      · exact h2 n (fun v hv => hn v (by simp [hv])) e he, hk⟩
  | .t _ :: _, K, h => h.elim

theorem results_of (hv : Valid tb P) (hr : Rel cx β s a w) {fn : Func} {rs : List ResultVar} (hrs : fn.results.toList = rs) {K : T → Prop} (h : resK tb s rs fun l => oneK l K) :
    ∃ v : T, (results fn a.tmps).run P w = .ok (v.ren β) w ∧ K v := by
  obtain ⟨vs, hrun, hone⟩ := resK_of hv hr h
  have e : (results fn a.tmps).run P w = .ok (if h : (vs.map (T.ren β)).toArray.size = 1 then (vs.map (T.ren β)).toArray[0] else .tuple (vs.map (T.ren β)).toArray) w := by
    have el : results fn a.tmps = (do let vs ← fn.results.mapM (resV a.tmps); pure (if h : vs.size = 1 then vs[0] else .tuple vs)) := by
      unfold results
      congr 1
    rw [el, Array.mapM_eq_mapM_toList, hrs]
    simp only [Sem.run_bind, Sem.run_map, hrun, Result.andThen_ok, Sem.run_pure]
  rcases vs with _ | ⟨v, _ | ⟨u, r⟩⟩
  · have hone' : toEs [] fun es => K (.t es) := hone
    obtain ⟨es, h1, h2, hk⟩ := toEs_of (β := β) hone'
    exact ⟨.t es, by rw [e]; simp [T.ren, ← h1], hk⟩
  · exact ⟨v, by rw [e]; simp, hone⟩
  · have hone' : toEs (v :: u :: r) fun es => K (.t es) := hone
    obtain ⟨es, h1, h2, hk⟩ := toEs_of (β := β) hone'
    refine ⟨.t es, ?_, hk⟩
    rw [e, dif_neg (by simp)]
    simp only [T.ren, ← h1]

theorem oneK_bel {n : Nat} {l : List T} {K : T → Prop} (hl : ∀ v ∈ l, v.bel n) (h : oneK l K) : oneK l fun v => v.bel n ∧ K v := by
  match l, h with
  | [v], h => exact ⟨hl v (by simp), h⟩
  | [], h => exact ⟨by simp [T.bel], h⟩
  | u :: v :: r, h =>
    have key : ∀ (l : List T) (K : List E → Prop), (∀ v ∈ l, v.bel n) → toEs l K → toEs l fun es => (∀ e ∈ es, e.bel n) ∧ K es := by
      intro l
      induction l with
      | nil => intro K _ h; exact ⟨by simp, h⟩
      | cons q l ih =>
        intro K hl h
        cases q with
        | c v =>
          have h1 := ih (fun l => K (.c v :: l)) (fun v hv => hl v (by simp [hv])) h
          have hv : (E.c v).bel n := hl (.c v) (by simp)
          revert h1
          have mono : ∀ (l : List T) (A B : List E → Prop), (∀ es, A es → B es) → toEs l A → toEs l B := by
            intro l
            induction l with
            | nil => intro A B hab h; exact hab _ h
            | cons q l ih => intro A B hab h; cases q <;> first | exact ih _ _ (fun es he => hab _ he) h | exact h
          exact mono l _ _ (fun es he => ⟨fun e hm => by
            rcases List.mem_cons.1 hm with rfl | hm
            · exact hv
            · exact he.1 e hm, he.2⟩)
        | a v =>
          have h1 := ih (fun l => K (.a v :: l)) (fun v hv => hl v (by simp [hv])) h
          have hv : (E.a v).bel n := hl (.a v) (by simp)
          revert h1
          have mono : ∀ (l : List T) (A B : List E → Prop), (∀ es, A es → B es) → toEs l A → toEs l B := by
            intro l
            induction l with
            | nil => intro A B hab h; exact hab _ h
            | cons q l ih => intro A B hab h; cases q <;> first | exact ih _ _ (fun es he => hab _ he) h | exact h
          exact mono l _ _ (fun es he => ⟨fun e hm => by
            rcases List.mem_cons.1 hm with rfl | hm
            · exact hv
            · exact he.1 e hm, he.2⟩)
        | t v => exact h.elim
    exact key _ _ hl h

def zipI : Nat → List T → List (Nat × T)
  | _, [] => []
  | i, v :: r => (i, v) :: zipI (i + 1) r

theorem find_zip : ∀ {l : List T} {i0 i : Nat} {v : T}, find (zipI i0 l) i = some v → ∃ j, i = i0 + j ∧ l[j]? = some v
  | [], i0, i, v, h => by cases h
  | u :: r, i0, i, v, h => by
    unfold zipI find at h
    split at h
    · rename_i he
      cases h
      exact ⟨0, by omega, rfl⟩
    · obtain ⟨j, h1, h2⟩ := find_zip h
      exact ⟨j + 1, by omega, by simpa using h2⟩

/-- How a contract is shown. -/
theorem Ctr.mk' {F : Nat} {fn : Func} {c : Code} {N : Nat} {args : List T} {h : List Fam} {Q : T → List Fam → Prop} {rs : List ResultVar} (hv : Valid tb P) (hmx : P.follows .mixedOrders = true) (hf : P.funcs[F]? = some fn) (hb : fn.body = some c) (hN : fn.ntmps = N)
    (hrs : fn.results.toList = rs) (hcf : ∀ (args : Array Value) (W : World), (callFunc F args).run P W = .ok (.enter F args) W) (hok : okC c = true) (hal : Nat.ble args.length N = true) (hab : args.all (T.belB h.length) = true) (hbk : belsK h.length h True)
    (hwp : capsP h → wpC P tb N h.length c ⟨zipI 0 args, h⟩ (fun s => resK tb s rs fun l => oneK l fun v => FinK h.length s v Q) (fun _ _ => False) (fun s => resK tb s rs fun l => oneK l fun v => FinK h.length s v Q)) : Ctr P F args h Q := by
  refine ⟨hcf, fun β W hfit => calls_of_wp hf hb ?_⟩
  have hal := Nat.le_of_ble_eq_true hal
  obtain ⟨hbel, _⟩ := belsK_of hbk (fun f x => hfit.flat f x)
  let cx : Cx := ⟨W, fun b => ∃ f x, (get h f x).owned = true ∧ (β f x).1 = b, fun b => ∃ f x, (get h f x).known = true ∧ (β f x).1 = b, h.length, β, N⟩
  have hsz : (args.map (T.ren β)).toArray.size = args.length := by simp
  have hr : Rel cx β ⟨zipI 0 args, h⟩ { tmps := (args.map (T.ren β)).toArray ++ Array.replicate (fn.ntmps - (args.map (T.ren β)).toArray.size) undef, defers := [] } W := by
    refine ⟨rfl, ?_, ⟨fun i v hv => ?_⟩, hfit, ⟨fun i v hv => ?_, hbel⟩, Nat.le_refl _, fun _ _ _ => rfl, rfl, rfl, rfl, Nat.le_refl _, fun _ _ _ => rfl, fun f x ho => .inl ⟨f, x, ho, rfl⟩, fun f x ho => .inl ⟨f, x, ho, rfl⟩⟩
    · show _ = N
      simp only [Array.size_append, Array.size_replicate, hsz]
      omega
    · obtain ⟨j, hj, hl⟩ := find_zip hv
      have hjl := (List.getElem?_eq_some_iff.1 hl).1
      simp only
      rw [Array.getElem?_append_left (by rw [hsz]; omega)]
      have : i = j := by omega
      subst this
      simp [hl]
    · obtain ⟨j, hj, hl⟩ := find_zip hv
      exact T.belB_bel (List.all_eq_true.1 hab v (List.mem_of_getElem? hl))
  have hmain := wpC_of hv hmx c _ _ _ _ β _ W hok hr (hwp (capsP_of hfit))
  have fin : ∀ a w, Nk cx (fun s => resK tb s rs fun l => oneK l fun v => FinK h.length s v Q) a w → a.defers = [] ∧ ∃ v, (results fn a.tmps).run P w = .ok v w ∧
      ∃ v0 h' β', Q v0 h' ∧ Ending.returned v = .returned (v0.ren β') ∧ v0.bel h'.length ∧ Left β h W β' h' w := by
    rintro a w ⟨β1, s1, hk, hr1⟩
    obtain ⟨v, hrun, hvb1, hfin⟩ := results_of hv hr1 hrs (resK_wf hr1.wf (fun vs hvs h => oneK_bel hvs h) hk)
    obtain ⟨σ, v', h', hQ, hent⟩ := hfin.ex
    obtain ⟨β2, β', hr2, hag2, hna, hβ, hrel, hrest⟩ := entH_of hr1 hent
    obtain ⟨hvb, heq⟩ := ifB_of hrest
    obtain ⟨he, _⟩ := eqT_of heq
    have hr' := hrel [] (fun i v hv => by cases hv)
    refine ⟨hr1.dfr, _, hrun, v', h', β', hQ, ?_, T.belB_bel hvb, ?_⟩
    · rw [T.ren_agree hvb1 hag2, he β2 hna, rk_T hβ]
    · exact ⟨hr'.ml, hr'.pin, hr'.ft, ⟨fun i v hv => (by cases hv), hr'.wf.h⟩, hr'.os, hr'.tape, hr'.out, hr'.hs, fun b hb hne => hr'.fr b hb (by rintro ⟨f, x, ho, e⟩; exact hne f x ho e), hr'.ow, hr'.kn⟩
  refine wp_mono hmain ?_
  intro e a w hq
  cases e with
  | normal => exact fin a w hq
  | ret => exact fin a w hq
  | exit id =>
    obtain ⟨_, _, hk, _⟩ := hq
    exact hk.elim
  | _ => exact hq.elim
end Go.X

namespace Go.X
theorem all_one {p : Nat → Prop} (h : p 0) : ∀ i, i < 1 → p i := by
  intro i hi
  have : i = 0 := by omega
  subst this; exact h
theorem Ctr.mono' {P : Program} {F : Nat} {args : List T} {h : List Fam} {Q Q' : T → List Fam → Prop} (hc : Ctr P F args h Q) (hq : ∀ v h', Q v h' → Q' v h') : Ctr P F args h Q' :=
  ⟨hc.cf, fun β W hf => (hc.run β W hf).mono fun e W' hh => by
    obtain ⟨v, h', β', h1, h2⟩ := hh
    exact ⟨v, h', β', hq v h' h1, h2⟩⟩

/-- A known answer. -/
theorem Ctr.tt {P : Program} {F : Nat} {args : List T} {h : List Fam} {R : List Fam → Prop} (hc : Ctr P F args h fun v h' => ∃ b, v = .c (.b b) ∧ b = true ∧ R h') : Ctr P F args h fun v h' => v = .c .tt ∧ R h' :=
  ⟨hc.cf, fun β W hf => (hc.run β W hf).mono fun e W' hh => by
    obtain ⟨v, h', β', ⟨b, rfl, rfl, hR⟩, he, _, hl⟩ := hh
    exact ⟨.c .tt, h', β', ⟨rfl, hR⟩, he, trivial, hl⟩⟩
theorem n1 {p : Prop} [Decidable p] : (decide p = true) = p := decide_eq_true_eq
theorem n2 {p : Prop} {_ : Decidable p} : decide p = false ↔ ¬p := decide_eq_false_iff_not
theorem n3 (b : Bool) : ((!b) = true) = (b = false) := Bool.not_eq_true' b
theorem n4 (b : Bool) : ((!b) = false) = (b = true) := Bool.not_eq_false' b
theorem n5 (a b : Bool) : ((a && b) = true) = (a = true ∧ b = true) := Bool.and_eq_true a b
theorem n6 {x y : Bool} : (x && y) = false ↔ x = false ∨ y = false := Bool.and_eq_false_iff
theorem n7 (a b : Bool) : ((a || b) = true) = (a = true ∨ b = true) := Bool.or_eq_true a b
theorem n8 {x y : Bool} : (x || y) = false ↔ x = false ∧ y = false := Bool.or_eq_false_iff
theorem n9 (b : Bool) : (b && true) = b := Bool.and_true b
theorem n10 {a b : Int} : ¬a < b ↔ b ≤ a := Int.not_lt
theorem n11 {a b : Int} : ¬a ≤ b ↔ b < a := Int.not_le
theorem n12 : (¬True) = False := not_true_eq_false
theorem n13 (p : Prop) : (p ∨ p) = p := or_self p
theorem n14 (p : Prop) : (True ∧ p) = p := true_and p
theorem n15 : (true = false) = False := Bool.true_eq_false
theorem n16 : (false = true) = False := Bool.false_eq_true
theorem n17 : (¬False) = True := not_false_eq_true
theorem n18 {α : Type _} [BEq α] [ReflBEq α] {a : α} : (a == a) = true := beq_self_eq_true a
theorem n19 (h : Decidable True) : @decide True h = true := decide_true h
theorem n20 (h : Decidable False) : @decide False h = false := decide_false h
theorem n21 (n : Nat) : (n : Int).toNat = n := rfl
theorem n22 (n : Nat) : 0 + n = n := Nat.zero_add n
theorem m1 {α β : Type _} {f : α → β} {a : α} {l : List α} : List.map f (a :: l) = f a :: List.map f l := rfl
theorem m2 {α β : Type _} {f : α → β} : List.map f [] = [] := rfl
theorem m3 {α : Type _} {a : α} {l m : List α} : (a :: l) ++ m = a :: (l ++ m) := rfl
theorem m4 {α : Type _} (l : List α) : [] ++ l = l := rfl
theorem m5 {α : Type _} {a : α} {l : List α} : (a :: l).length = l.length + 1 := rfl
theorem m6 {α : Type _} : ([] : List α).length = 0 := rfl
theorem m7 {α β : Type _} (a : α) (f : α → β) : Option.map f (some a) = some (f a) := rfl
theorem m8 {α β : Type _} (a : α) (f : α → Option β) : (some a).bind f = f a := rfl
theorem m9 (n : Nat) : n + 0 = n := rfl
theorem m10 (n m : Nat) : n + m - n = m := Nat.add_sub_cancel_left n m
theorem m11 {α : Type _} {p : α → Bool} {a : α} {l : List α} : (a :: l).all p = (p a && l.all p) := rfl
theorem m12 {α : Type _} {p : α → Bool} : ([] : List α).all p = true := rfl
theorem m13 {α : Type _} {l m : List α} : List.append l m = l ++ m := rfl
theorem m14 : (!true) = false := rfl
theorem m15 (b : Bool) : (b || false) = b := Bool.or_false b
theorem m16 (b : Bool) : (b || b) = b := Bool.or_self b
theorem m17 : (!false) = true := rfl
theorem m18 {α : Type _} (l : List α) : l ++ [] = l := List.append_nil l
theorem m19 (b : Bool) : (b && b) = b := Bool.and_self b
theorem bff {b : Bool} {p : Prop} (h1 : b = false) (h2 : b = true) : p := by rw [h1] at h2; cases h2
theorem kL {m : Nat} {body : S → (S → Prop) → Prop} {s : S} (h : LoopK m body s) : LoopK m body s := h
theorem kC {P : Program} {F : Nat} {args : List T} {H : List Fam} {K : T → List Fam → Prop} (h : CallK P F args H K) : CallK P F args H K := h
theorem kF {m : Nat} {s : S} {v : T} {Q : T → List Fam → Prop} (h : FinK m s v Q) : FinK m s v Q := h
theorem kM {c : Ck} {K : Ck → Prop} (h : ManyK c K) : ManyK c K := h
/-- A call, the heap's length reckoned by itself. -/
theorem CallK.mk3 {P : Program} {F : Nat} {args : List T} {H : List Fam} {K : T → List Fam → Prop} {σ : List Sg} {nl : List Fam} {args0 : List T} {h0 : List Fam} {Q : T → List Fam → Prop} {H2 H1 : List Fam} {N n : Nat} (hc : Ctr P F args0 h0 Q) (hap : apart σ = true) (hnl : nl.all nilB = true)
    (h1 : H ++ nl = H1) (hN : H1.length = N) (hn : H.length = n)
    (hH : givesF σ N H1 σ h0 = some H2) (hle : leS n H1 σ N σ h0 (belsK N (h0.map (Fam.rk σ N)) (argsK n args (args0.map (T.rk σ N)) True)))
    (hk : ∀ v h', Q v h' → capsP h' → RetG σ H2 h' v K) : CallK P F args H K := by
  subst h1 hN hn
  exact CallK.mk2 hc hap hnl hH hle hk
theorem ret_mk3 {σ : List Sg} {H h' : List Fam} {v : T} {K : T → List Fam → Prop} {H' : List Fam} {v' : T} {N : Nat} (hN : H.length = N) (h : givesF σ N H σ h' = some H') (hv : v.rk σ N = v') (hk : K v' H') : RetG σ H h' v K := by
  subst hN
  exact ret_mk h hv hk
end Go.X

set_option linter.unusedVariables false
namespace Go.X
open Go.RowKit Go.ChangeShapes Go.WideShapes Go.OpenShut

inductive K where
  | i (k : IntKind) | b | s | sl (ks : List K)

def repK : Nat → List K → List K
  | 0, _ => []
  | n + 1, l => l ++ repK n l

def kindsF (P : Program) (f : TypeId → Option (List K)) : List Field → Nat → Option (List K)
  | [], _ => some []
  | g :: r, o => if Nat.beq g.offset o then (f g.type).bind fun ks => if Nat.beq ks.length (P.cellsOf g.type) then (kindsF P f r (o + ks.length)).map fun q => ks ++ q else none else none

def kindsOf (P : Program) : Nat → TypeId → Option (List K)
  | 0, _ => none
  | n + 1, t => match P.underlying t with
    | some (.int k) => some [.i k]
    | some .bool => some [.b]
    | some .string => some [.s]
    | some (.slice e) => (kindsOf P n e).bind fun ks => if Nat.beq ks.length (P.cellsOf e) && Nat.blt 0 ks.length then some [.sl ks] else none
    | some (.struct fs) => (kindsF P (kindsOf P n) fs.toList 0).bind fun ks => if Nat.beq ks.length (P.cellsOf t) then some ks else none
    | some (.array m e) => (kindsOf P n e).bind fun ks => if Nat.beq ks.length (P.cellsOf e) && Nat.beq (m * ks.length) (P.cellsOf t) then some (repK m ks) else none
    | _ => none

mutual
def VK (W : World) : K → Value → Prop
  | .i k, v => ∃ n, v = .int k n ∧ k.min ≤ n ∧ n ≤ k.max
  | .b, v => ∃ x, v = .bool x
  | .s, v => ∃ x : ByteArray, v = .string x ∧ x.size ≤ 140737488351232
  | .sl ks, v => v = .slice none 0 0 ∨ ∃ (a : Addr) (n c : Nat), v = .slice (some a) n c ∧ n ≤ c ∧ c ≤ maxLen ∧
      (c = 0 ∨ (a.spot = none ∧ a.block < W.heap.size ∧ ∃ cur te fz, W.heap[a.block]? = some (.cells cur te fz) ∧ ∀ i, i < n → VKs W ks ((cur.toList.drop (a.off + i * ks.length)).take ks.length)))
def VKs (W : World) : List K → List Value → Prop
  | [], [] => True
  | k :: ks, v :: vs => VK W k v ∧ VKs W ks vs
  | _, _ => False
end

theorem VKs_app {W : World} : ∀ {ks ls : List K} {cs ds : List Value}, VKs W ks cs → VKs W ls ds → VKs W (ks ++ ls) (cs ++ ds)
  | [], _, [], _, _, h => by simpa using h
  | [], _, _ :: _, _, h, _ => by simp [VKs] at h
  | _ :: _, _, [], _, h, _ => by simp [VKs] at h
  | k :: ks, ls, c :: cs, ds, h, h2 => by
    simp only [VKs] at h
    simp only [List.cons_append, VKs]
    exact ⟨h.1, VKs_app h.2 h2⟩

theorem wf_bounds {k : IntKind} {n : Int} (h : (Lit.int k n).wf = true) : k.min ≤ n ∧ n ≤ k.max := by simpa [Lit.wf] using h

section
variable {H : Type} {enc : TypeId × Value → H} {P : Program} {W : World}

theorem weights_part {fs : List TypeId} {ds : List (DataW H)} : ∀ {i : Nat} {t d}, fs[i]? = some t → ds[i]? = some d → ∀ n ∈ d.weights P t, n ∈ DataW.weightsEach P fs ds :=
  fun h1 h2 => DataW.weights_mem_each h1 h2

theorem weightsAll_mem' {e : TypeId} {l : List (DataW H)} {d : DataW H} (hd : d ∈ l) {n : Nat} (hn : n ∈ d.weights P e) : n ∈ DataW.weightsAll P e l := by
  induction l with
  | nil => simp at hd
  | cons x l ih =>
    rw [DataW.weightsAll, List.mem_append]
    rcases List.mem_cons.1 hd with rfl | h
    · exact .inl hn
    · exact .inr (ih h)

theorem cells_take {a : Addr} {n : Nat} {cs : List Value} (h : W.cells? 0 a n = some cs) (h0 : 0 < n) :
    a.spot = none ∧ ∃ cur te fz, W.heap[a.block]? = some (.cells cur te fz) ∧ cs = (cur.toList.drop a.off).take n := by
  obtain ⟨_, hlen, hget⟩ := World.cells?_some h
  have h1 := hget 0 h0
  rw [List.getElem?_eq_getElem (by omega)] at h1
  have hspot : a.spot = none := by simpa [Addr.add] using World.cell?_spot h1
  obtain ⟨b, off, spot⟩ := a
  subst hspot
  refine ⟨rfl, ?_⟩
  have hb : ∃ cur te fz, W.heap[b]? = some (.cells cur te fz) := by
    unfold World.cell? at h1
    split at h1
    · rename_i c e f hh
      refine ⟨c, e, f, ?_⟩
      rw [← hh]
      simp [Addr.add]
    · cases h1
  obtain ⟨cur, te, fz, hh⟩ := hb
  refine ⟨cur, te, fz, hh, ?_⟩
  have hcell : ∀ i, W.cell? ((⟨b, off, none⟩ : Addr).add i) = cur[off + i]? := by
    intro i
    have e : ((⟨b, off, none⟩ : Addr).add i) = ⟨b, off + i, none⟩ := by unfold Addr.add; split <;> simp_all
    rw [e]
    exact cell_at hh
  apply List.ext_getElem?
  intro i
  by_cases hi : i < n
  · rw [← hget i hi, hcell, List.getElem?_take, if_pos hi, List.getElem?_drop, Array.getElem?_toList]
  · rw [List.getElem?_eq_none (by omega), List.getElem?_take, if_neg hi]

theorem repK_len (n : Nat) (ks : List K) : (repK n ks).length = n * ks.length := by
  induction n with
  | zero => simp [repK]
  | succ n ih => simp [repK, ih, Nat.add_mul, Nat.add_comm]

theorem VKs_len {W : World} : ∀ {ks : List K} {cs : List Value}, VKs W ks cs → cs.length = ks.length
  | [], [], _ => rfl
  | [], _ :: _, h => by simp [VKs] at h
  | _ :: _, [], h => by simp [VKs] at h
  | k :: ks, c :: cs, h => by
    simp only [VKs] at h
    simp [VKs_len h.2]

theorem VKs_rep {ks : List K} : ∀ {n : Nat} {cs : List Value}, (∀ i, i < n → VKs W ks ((cs.drop (i * ks.length)).take ks.length)) → cs.length = n * ks.length → VKs W (repK n ks) cs
  | 0, cs, _, hl => by
    have : cs = [] := List.length_eq_zero_iff.1 (by omega)
    subst this
    simp [repK, VKs]
  | n + 1, cs, h, hl => by
    have h0 := h 0 (by omega)
    simp only [Nat.zero_mul, List.drop_zero] at h0
    have hr : VKs W (repK n ks) (cs.drop ks.length) := by
      refine VKs_rep (fun i hi => ?_) (by rw [List.length_drop, hl, Nat.add_mul]; omega)
      have := h (i + 1) (by omega)
      rwa [Nat.add_mul, Nat.one_mul, Nat.add_comm, ← List.drop_drop] at this
    have := VKs_app h0 hr
    rwa [List.take_append_drop] at this

theorem kindsOf_trod : ∀ (n fuel : Nat) {t : TypeId} {ks : List K} {cs : List Value} {x : DataW H × List MemPlace}, kindsOf P n t = some ks → DataW.trod enc P W 0 (fun _ => true) true fuel t cs = some x →
    (∀ p ∈ x.2, p.block < W.heap.size) → (∀ q ∈ x.1.weights P t, q ≤ reachBytes) → VKs W ks cs := by
  intro n
  induction n with
  | zero => intro fuel t ks cs x hk; simp [kindsOf] at hk
  | succ n ih =>
    intro fuel t ks cs x hk h hlt hw
    unfold kindsOf at hk
    split at hk
    · rename_i k hu
      cases hk
      obtain ⟨v, rfl, _, hwf⟩ := DataW.trod_int hu h
      exact ⟨⟨v, rfl, wf_bounds hwf⟩, trivial⟩
    · rename_i hu
      cases hk
      obtain ⟨v, rfl, _⟩ := DataW.trod_bool hu h
      exact ⟨⟨v, rfl⟩, trivial⟩
    · rename_i hu
      cases hk
      obtain ⟨v, rfl, rfl, hs⟩ := DataW.trod_string hu h
      refine ⟨⟨v, rfl, ?_⟩, trivial⟩
      have := hw v.data.toList.length (by simp [DataW.weights])
      rw [Array.length_toList] at this
      exact this
    · rename_i e hu
      obtain ⟨kl, hkl, hk⟩ := Option.bind_eq_some_iff.1 hk
      split at hk
      case isFalse => cases hk
      rename_i hz
      cases hk
      obtain ⟨hz, hz0⟩ := Bool.and_eq_true_iff.1 hz
      have hz := Nat.eq_of_beq_eq_true hz
      have hz0 : 0 < kl.length := by simpa using hz0
      rcases DataW.trod_slice hu h with ⟨rfl, _⟩ | ⟨a, len, cap, elems, rest, m, _, rfl, rfl, _, hl, hm, hlen, hel, hsp, _⟩
      · exact ⟨.inl rfl, trivial⟩
      · refine ⟨.inr ⟨a, len, cap, rfl, hl, hm, ?_⟩, trivial⟩
        rcases Nat.eq_zero_or_pos cap with hc | hc
        · exact .inl hc
        right
        obtain ⟨hrl, hr⟩ := hsp rfl
        have hblk : a.block < W.heap.size := hlt (.cell a.block a.off) (List.mem_append_left _ (MemPlace.mem_row.2 ⟨0, by rw [hlen, hrl, show len + (cap - len) = cap by omega, ← hz]; exact Nat.mul_pos hc hz0, by simp⟩))
        -- one of the elements is read
        have hread : ∀ i, i < cap → ∃ cs' y, W.cells? 0 (a.add (i * P.cellsOf e)) (P.cellsOf e) = some cs' ∧ (i < len → DataW.trod enc P W 0 (fun _ => true) true m e cs' = some y ∧ elems[i]? = some y) := by
          intro i hi
          by_cases hil : i < len
          · have h1 := hel i hil
            rw [List.getElem?_eq_getElem (by omega)] at h1
            obtain ⟨cs', hcs, hy⟩ := Option.bind_eq_some_iff.1 h1
            exact ⟨cs', _, hcs, fun _ => ⟨hy, List.getElem?_eq_getElem (by omega)⟩⟩
          · have h1 := hr (i - len) (by omega)
            rw [List.getElem?_eq_getElem (by omega), show len + (i - len) = i by omega] at h1
            obtain ⟨cs', hcs, hy⟩ := Option.bind_eq_some_iff.1 h1
            exact ⟨cs', (DataW.nil, []), hcs, fun hh => absurd hh hil⟩
        obtain ⟨cs0, y0, hc0, _⟩ := hread 0 hc
        rw [Nat.zero_mul, show a.add 0 = a by simp [Addr.add]] at hc0
        obtain ⟨hspot, cur, te, fz, hh, _⟩ := cells_take hc0 (by omega)
        refine ⟨hspot, hblk, cur, te, fz, hh, fun i hi => ?_⟩
        obtain ⟨cs', y, hcs, hy⟩ := hread i (by omega)
        obtain ⟨hy, hmem⟩ := hy hi
        obtain ⟨_, cur', te', fz', hh', rfl⟩ := cells_take hcs (by omega)
        have hb' : (a.add (i * P.cellsOf e)).block = a.block := by unfold Addr.add; split <;> rfl
        have ho' : (a.add (i * P.cellsOf e)).off = a.off + i * P.cellsOf e := by unfold Addr.add; split <;> simp_all
        rw [hb'] at hh'
        rw [hh] at hh'
        cases hh'
        rw [ho', ← hz] at hy
        have hye : y ∈ elems := List.mem_of_getElem? hmem
        refine ih m hkl hy (fun p hp => hlt p (List.mem_append_right _ (List.mem_flatMap.2 ⟨y, List.mem_append_left _ hye, hp⟩))) (fun q hq => hw q ?_)
        simp only [DataW.weights, hu]
        exact List.mem_cons_of_mem _ (List.mem_append_left _ (weightsAll_mem' (List.mem_map.2 ⟨y, hye, rfl⟩) hq))
    · rename_i fs hu
      obtain ⟨kl, hkl, hk⟩ := Option.bind_eq_some_iff.1 hk
      split at hk
      case isFalse => cases hk
      rename_i hz
      cases hk
      have hz := Nat.eq_of_beq_eq_true hz
      obtain ⟨xs, m, _, rfl, hcl, hxl, hx⟩ := DataW.trod_struct hu h
      have hxl' : xs.length = fs.toList.length := by simpa using hxl
      have hw' : ∀ (i : Nat) (f : Field) (y : DataW H × List MemPlace), fs.toList[i]? = some f → xs[i]? = some y → ∀ q ∈ y.1.weights P f.type, q ≤ reachBytes := by
        intro i f y hf hy q hq
        refine hw q ?_
        simp only [DataW.weights, hu]
        exact DataW.weights_mem_each (j := i) (t := f.type) (d := y.1) (by simp [List.getElem?_map, hf]) (by simp [List.getElem?_map, hy]) q hq
      have hlt' : ∀ y ∈ xs, ∀ p ∈ y.2, p.block < W.heap.size := fun y hy p hp => hlt p (List.mem_flatMap.2 ⟨y, hy, hp⟩)
      have hx' : ∀ (i : Nat) (f : Field), fs.toList[i]? = some f → DataW.trod enc P W 0 (fun _ => true) true m f.type ((cs.drop f.offset).take (P.cellsOf f.type)) = xs[i]? := fun i f hf => hx i f (by rw [← Array.getElem?_toList]; exact hf)
      clear hx h hw hlt
      have key : ∀ (l : List Field) (j o : Nat) (kl : List K), kindsF P (kindsOf P n) l o = some kl → (∀ (i : Nat) (f : Field), l[i]? = some f → fs.toList[j + i]? = some f) → o + kl.length ≤ cs.length → VKs W kl ((cs.drop o).take kl.length) := by
        intro l
        induction l with
        | nil =>
          intro j o kl hg _ _
          simp only [kindsF, Option.some.injEq] at hg
          subst hg
          simp [VKs]
        | cons f r ihl =>
          intro j o kl hg hf hle
          unfold kindsF at hg
          split at hg
          case isFalse => cases hg
          rename_i ho
          have ho := Nat.eq_of_beq_eq_true ho
          subst ho
          obtain ⟨k1, hk1, hg⟩ := Option.bind_eq_some_iff.1 hg
          split at hg
          case isFalse => cases hg
          rename_i hz1
          have hz1 := Nat.eq_of_beq_eq_true hz1
          obtain ⟨k2, hk2, rfl⟩ := Option.map_eq_some_iff.1 hg
          have hfj := hf 0 f rfl
          have hxj := hx' j f hfj
          rw [List.getElem?_eq_getElem (by have := (List.getElem?_eq_some_iff.1 hfj).1; omega)] at hxj
          have hjl : j < xs.length := by have := (List.getElem?_eq_some_iff.1 hfj).1; omega
          have h1 := ih m hk1 hxj (hlt' _ (List.getElem_mem hjl)) (hw' j f _ hfj (List.getElem?_eq_getElem hjl))
          rw [← hz1] at h1
          rw [List.length_append] at hle
          have h2 := ihl (j + 1) (f.offset + k1.length) k2 hk2 (fun i g hi => by have := hf (i + 1) g (by simpa using hi); rwa [show j + 1 + i = j + (i + 1) by omega]) (by omega)
          have := VKs_app h1 h2
          rw [← List.drop_drop] at this
          rw [List.length_append]
          rwa [← List.take_add] at this
      have := key fs.toList 0 0 _ hkl (fun i f hf => by simpa using hf) (by omega)
      rw [List.drop_zero, List.take_of_length_le (by omega)] at this
      exact this
    · rename_i m e hu
      obtain ⟨kl, hkl, hk⟩ := Option.bind_eq_some_iff.1 hk
      split at hk
      case isFalse => cases hk
      rename_i hz
      cases hk
      obtain ⟨hz, hz2⟩ := Bool.and_eq_true_iff.1 hz
      have hz := Nat.eq_of_beq_eq_true hz
      have hz2 := Nat.eq_of_beq_eq_true hz2
      obtain ⟨xs, f, _, rfl, hcl, hxl, hx⟩ := DataW.trod_array hu h
      refine VKs_rep (fun i hi => ?_) (by omega)
      have h1 := hx i hi
      rw [List.getElem?_eq_getElem (by omega), ← hz] at h1
      have hmem : xs[i]'(by omega) ∈ xs := List.getElem_mem _
      refine ih f hkl h1 (fun p hp => hlt p (List.mem_flatMap.2 ⟨_, hmem, hp⟩)) (fun q hq => hw q ?_)
      simp only [DataW.weights, hu]
      exact weightsAll_mem' (List.mem_map.2 ⟨_, hmem, rfl⟩) hq
    · cases hk
end
end Go.X

set_option linter.unusedVariables false
namespace Go.X
open Go.RowKit Go.ChangeShapes Go.WideShapes Go.OpenShut

def K.flatB : K → Bool
  | .sl _ => false
  | _ => true

/-- Cells of flat kinds. -/
def FT : List K → List C → Prop
  | [], [] => True
  | .i k :: ks, c :: l => (∃ n, c = .i k n ∧ k.min ≤ n ∧ n ≤ k.max) ∧ FT ks l
  | .b :: ks, c :: l => (∃ x, c = .b x) ∧ FT ks l
  | .s :: ks, c :: l => (∃ x : ByteArray, c = .s x ∧ x.size ≤ 140737488351232) ∧ FT ks l
  | _, _ => False

theorem flat_view {W : World} : ∀ {ks : List K} {vs : List Value}, ks.all K.flatB = true → VKs W ks vs → ∃ l : List C, FT ks l ∧ (∀ β, l.map (C.ren β) = vs) ∧ (∀ v ∈ l, v.flat = true) ∧ l.length = ks.length
  | [], [], _, _ => ⟨[], trivial, fun _ => rfl, by simp, rfl⟩
  | [], _ :: _, _, h => by simp [VKs] at h
  | _ :: _, [], _, h => by simp [VKs] at h
  | k :: ks, v :: vs, hf, h => by
    simp only [VKs] at h
    simp only [List.all_cons, Bool.and_eq_true] at hf
    obtain ⟨l, h1, h2, h3, h4⟩ := flat_view hf.2 h.2
    cases k with
    | i k =>
      obtain ⟨n, rfl, hb⟩ := h.1
      exact ⟨.i k n :: l, ⟨⟨n, rfl, hb⟩, h1⟩, fun β => by simp [h2, C.ren], by simpa [C.flat] using h3, by simp [h4]⟩
    | b =>
      obtain ⟨x, rfl⟩ := h.1
      exact ⟨.b x :: l, ⟨⟨x, rfl⟩, h1⟩, fun β => by simp [h2, C.ren], by simpa [C.flat] using h3, by simp [h4]⟩
    | s =>
      obtain ⟨x, rfl, hb⟩ := h.1
      exact ⟨.s x :: l, ⟨⟨x, rfl, hb⟩, h1⟩, fun β => by simp [h2, C.ren], by simpa [C.flat] using h3, by simp [h4]⟩
    | sl ks => simp [K.flatB] at hf

/-- The name of a slice's row. -/
def nameOf : Value → Nat × Nat × Fl
  | .slice none _ _ => (0, 0, .nil)
  | .slice (some ⟨b, o, none⟩) _ _ => (b, o, .live)
  | .slice (some ⟨b, o, some q⟩) _ _ => (b, o, .odd q)
  | _ => (0, 0, .nil)
theorem name_ren {β : Nm} {f x z n c : Nat} {a : Option Addr} (h : β f x = nameOf (.slice a n c)) : (C.sl f x z 0 n c).ren β = .slice a n c := by
  rw [sl_adr]
  unfold adr place
  rw [h]
  rcases a with _ | ⟨b, o, _ | q⟩ <;> simp [nameOf, Addr.add]

/-- A slice of flat elements. -/
theorem sl_view {W : World} {ks : List K} {v : Value} (hf : ks.all K.flatB = true) (h : VK W (.sl ks) v) :
    ∃ (n c : Nat) (g : Nat → List C), (∀ β f x z, β f x = nameOf v → (C.sl f x z 0 n c).ren β = v) ∧ (∀ β e, (Ck.row false false e ks.length n c g).holds β W (nameOf v)) ∧ n ≤ maxLen ∧ c ≤ maxLen ∧ n ≤ c ∧ ∀ i, i < n → FT ks (g i) := by
  simp only [VK] at h
  rcases h with rfl | ⟨a, n, c, rfl, hnc, hcm, hh⟩
  · exact ⟨0, 0, fun _ => [], fun β f x z hb => name_ren hb, fun β e => ⟨by omega, fun _ => rfl, fun _ i hi => by omega, fun i hi => by omega, fun h => absurd rfl h⟩, by unfold maxLen; omega, by unfold maxLen; omega, by omega, fun i hi => by omega⟩
  · rcases hh with rfl | ⟨hs, hblk, cur, te, fz, hcur, hrow⟩
    · obtain rfl : n = 0 := by omega
      exact ⟨0, 0, fun _ => [], fun β f x z hb => name_ren hb, fun β e => ⟨by omega, fun _ => rfl, fun _ i hi => by omega, fun i hi => by omega, fun h => absurd rfl h⟩, by omega, hcm, by omega, fun i hi => by omega⟩
    · obtain ⟨b, off, spot⟩ := a
      simp only at hs hblk hcur hrow
      subst hs
      have hch : ∀ i, ∃ l : List C, i < n → FT ks l ∧ (∀ β, l.map (C.ren β) = ((cur.toList.drop (off + i * ks.length)).take ks.length)) ∧ (∀ v ∈ l, v.flat = true) ∧ l.length = ks.length := by
        intro i
        by_cases hi : i < n
        · obtain ⟨l, h⟩ := flat_view hf (hrow i hi)
          exact ⟨l, fun _ => h⟩
        · exact ⟨[], fun h => absurd h hi⟩
      refine ⟨n, c, fun i => (hch i).choose, fun β f x z hb => name_ren hb, fun β e => ⟨hnc, fun h => absurd rfl h, fun _ i hi => ((hch i).choose_spec hi).2.2.1, fun i hi => ((hch i).choose_spec hi).2.2.2, fun _ => ⟨cur, te, fz, hcur, fun i hi j v hj => ?_, (by simp)⟩⟩, by omega, hcm, hnc, fun i hi => ((hch i).choose_spec hi).1⟩
      obtain ⟨_, h2, _, h4⟩ := (hch i).choose_spec hi
      have hjl : j < ks.length := by rw [← h4]; exact (List.getElem?_eq_some_iff.1 hj).1
      have := congrArg (fun l => l[j]?) (h2 β)
      simp only [List.getElem?_map, hj, Option.map_some, List.getElem?_take, if_pos hjl, List.getElem?_drop, Array.getElem?_toList] at this
      rw [this]
      show cur[off + (i * ks.length + j)]? = cur[off + i * ks.length + j]?
      congr 1
      omega

theorem row_view {W : World} {ks : List K} {v : Value} (hf : ks.all K.flatB = true) (h : VK W (.sl ks) v) (hspot : ∀ a n c, v = .slice (some a) n c → a.spot = none) :
    ∃ (A : Nat × Nat × Fl) (n c : Nat) (g : Nat → List C), (∀ β f x, β f x = A → (C.sl f x ks.length 0 n c).ren β = v) ∧ (∀ β e, (Ck.row false false e ks.length n c g).holds β W A) ∧ n ≤ maxLen ∧ c ≤ maxLen ∧ n ≤ c ∧ ∀ i, i < n → FT ks (g i) := by
  obtain ⟨n, c, g, h1, h2⟩ := sl_view hf h
  exact ⟨nameOf v, n, c, g, fun β f x hb => h1 β f x _ hb, h2⟩

/-! ### Elements that bear slices -/
inductive DC where
  | f (c : C)
  | n (z n c : Nat)
def DC.mk (F : Nat → Nat) (i j : Nat) : DC → C
  | .f c => c
  | .n z m c => .sl (F j) i z 0 m c
def layD (F : Nat → Nat) (i : Nat) : Nat → List DC → List C
  | _, [] => []
  | j, d :: D => d.mk F i j :: layD F i (j + 1) D
def FD (W : World) (B : Nat → Nat × Nat × Fl) : Nat → List K → List DC → Prop
  | _, [], [] => True
  | j, .sl kf :: ks, .n z n c :: D => (z = kf.length ∧ n ≤ c ∧ n ≤ maxLen ∧ ∃ R : Nat → List C, (∀ β e, (Ck.row false false e kf.length n c R).holds β W (B j)) ∧ ∀ i, i < n → FT kf (R i)) ∧ FD W B (j + 1) ks D
  | j, k :: ks, .f c :: D => FT [k] [c] ∧ FD W B (j + 1) ks D
  | _, _, _ => False
def K.flat1B : K → Bool
  | .sl ks => ks.all K.flatB
  | _ => true
theorem layD_length (F : Nat → Nat) (i : Nat) : ∀ (j : Nat) (D : List DC), (layD F i j D).length = D.length
  | _, [] => rfl
  | j, d :: D => by simp [layD, layD_length F i (j + 1) D]

theorem FD_cong {W : World} : ∀ (m : Nat) {ks : List K} {D : List DC} {B B' : Nat → Nat × Nat × Fl}, (∀ y, m ≤ y → B y = B' y) → FD W B m ks D → FD W B' m ks D := by
  intro m ks
  induction ks generalizing m with
  | nil => intro D B B' _ h; cases D <;> exact h
  | cons k ks ih =>
    intro D B B' hB h
    have hB' : ∀ y, m + 1 ≤ y → B y = B' y := fun y hy => hB y (by omega)
    cases D with
    | nil => cases k <;> exact h.elim
    | cons d D =>
      cases d with
      | f c =>
        cases k <;> first | exact ⟨h.1, ih _ hB' h.2⟩ | exact h.1.elim
      | n z n c =>
        cases k <;> first | exact h.elim | skip
        obtain ⟨⟨e1, e2, e3, R, e4, e5⟩, e6⟩ := h
        exact ⟨⟨e1, e2, e3, R, fun β e => by rw [← hB m (Nat.le_refl _)]; exact e4 β e, e5⟩, ih _ hB' e6⟩

theorem cells_view {W : World} : ∀ (j : Nat) {ks : List K} {vs : List Value}, ks.all K.flat1B = true → VKs W ks vs →
    ∃ (B : Nat → Nat × Nat × Fl) (D : List DC), FD W B j ks D ∧ (∀ (β : Nm) (F : Nat → Nat) (i : Nat), (∀ y, j ≤ y → y < j + ks.length → β (F y) i = B y) → (layD F i j D).map (C.ren β) = vs) ∧ D.length = ks.length
  | j, [], [], _, _ => ⟨fun _ => (0, 0, .nil), [], trivial, fun _ _ _ _ => rfl, rfl⟩
  | _, [], _ :: _, _, h => by simp [VKs] at h
  | _, _ :: _, [], _, h => by simp [VKs] at h
  | j, k :: ks, v :: vs, hf, h => by
    simp only [VKs] at h
    simp only [List.all_cons, Bool.and_eq_true] at hf
    obtain ⟨B, D, h1, h2, h3⟩ := cells_view (j + 1) hf.2 h.2
    have flat : ∀ c : C, (∀ β, c.ren β = v) → FT [k] [c] → (∀ kf, k ≠ .sl kf) → ∃ (B : Nat → Nat × Nat × Fl) (D : List DC), FD W B j (k :: ks) D ∧ (∀ (β : Nm) (F : Nat → Nat) (i : Nat), (∀ y, j ≤ y → y < j + (k :: ks).length → β (F y) i = B y) → (layD F i j D).map (C.ren β) = v :: vs) ∧ D.length = (k :: ks).length := by
      intro c hc hft hk
      refine ⟨B, .f c :: D, ?_, fun β F i hb => ?_, by simp [h3]⟩
      · cases k <;> first | exact ⟨hft, h1⟩ | exact absurd rfl (hk _)
      · rw [show (layD F i j (DC.f c :: D)).map (C.ren β) = c.ren β :: (layD F i (j + 1) D).map (C.ren β) from rfl, hc β, h2 β F i (fun y hy hy2 => hb y (by omega) (by simp only [List.length_cons]; omega))]
    cases k with
    | i k =>
      have h0 := h.1
      simp only [VK] at h0
      obtain ⟨n, rfl, hb⟩ := h0
      exact flat (.i k n) (fun _ => rfl) ⟨⟨n, rfl, hb⟩, trivial⟩ (by simp)
    | b =>
      have h0 := h.1
      simp only [VK] at h0
      obtain ⟨x, rfl⟩ := h0
      exact flat (.b x) (fun _ => rfl) ⟨⟨x, rfl⟩, trivial⟩ (by simp)
    | s =>
      have h0 := h.1
      simp only [VK] at h0
      obtain ⟨x, rfl, hb⟩ := h0
      exact flat (.s x) (fun _ => rfl) ⟨⟨x, rfl, hb⟩, trivial⟩ (by simp)
    | sl kf =>
      obtain ⟨n, c, R, r1, r2, r3, _, r4, r5⟩ := sl_view (ks := kf) hf.1 h.1
      refine ⟨fun y => if y = j then nameOf v else B y, .n kf.length n c :: D, ⟨⟨rfl, r4, r3, R, fun β e => by simpa using r2 β e, r5⟩, FD_cong (j + 1) (fun y hy => (if_neg (by omega)).symm) h1⟩, fun β F i hb => ?_, by simp [h3]⟩
      rw [show (layD F i j (DC.n kf.length n c :: D)).map (C.ren β) = (C.sl (F j) i kf.length 0 n c).ren β :: (layD F i (j + 1) D).map (C.ren β) from rfl]
      have hj := hb j (Nat.le_refl _) (by simp)
      simp only at hj
      rw [r1 β (F j) i _ hj, h2 β F i (fun y hy hy2 => by
        have := hb y (by omega) (by simp only [List.length_cons]; omega)
        simpa only [if_neg (show ¬ y = j by omega)] using this)]

/-- A slice whose elements bear slices of flat elements. -/
theorem nest_view {W : World} {ks : List K} {v : Value} (hf : ks.all K.flat1B = true) (h : VK W (.sl ks) v) :
    ∃ (n c : Nat) (D : Nat → List DC) (B : Nat → Nat → Nat × Nat × Fl), (∀ β f x z, β f x = nameOf v → (C.sl f x z 0 n c).ren β = v) ∧
      (∀ β (F : Nat → Nat) e, (∀ i y, i < n → y < ks.length → β (F y) i = B i y) → (Ck.row false true e ks.length n c fun i => layD F i 0 (D i)).holds β W (nameOf v)) ∧ n ≤ maxLen ∧ c ≤ maxLen ∧ n ≤ c ∧ ∀ i, i < n → FD W (B i) 0 ks (D i) := by
  simp only [VK] at h
  rcases h with rfl | ⟨a, n, c, rfl, hnc, hcm, hh⟩
  · exact ⟨0, 0, fun _ => [], fun _ _ => (0, 0, .nil), fun β f x z hb => name_ren hb, fun β F e _ => ⟨by omega, fun _ => rfl, fun h => by simp at h, fun i hi => by omega, fun h => absurd rfl h⟩, by unfold maxLen; omega, by unfold maxLen; omega, by omega, fun i hi => by omega⟩
  · rcases hh with rfl | ⟨hs, hblk, cur, te, fz, hcur, hrow⟩
    · obtain rfl : n = 0 := by omega
      exact ⟨0, 0, fun _ => [], fun _ _ => (0, 0, .nil), fun β f x z hb => name_ren hb, fun β F e _ => ⟨by omega, fun _ => rfl, fun h => by simp at h, fun i hi => by omega, fun h => absurd rfl h⟩, by omega, hcm, by omega, fun i hi => by omega⟩
    · obtain ⟨b, off, spot⟩ := a
      simp only at hs hblk hcur hrow
      subst hs
      have hch : ∀ i, ∃ (B : Nat → Nat × Nat × Fl) (D : List DC), i < n → FD W B 0 ks D ∧ (∀ (β : Nm) (F : Nat → Nat) (i' : Nat), (∀ y, 0 ≤ y → y < 0 + ks.length → β (F y) i' = B y) → (layD F i' 0 D).map (C.ren β) = ((cur.toList.drop (off + i * ks.length)).take ks.length)) ∧ D.length = ks.length := by
        intro i
        by_cases hi : i < n
        · obtain ⟨B, D, h⟩ := cells_view 0 hf (hrow i hi)
          exact ⟨B, D, fun _ => h⟩
        · exact ⟨fun _ => (0, 0, .nil), [], fun h => absurd h hi⟩
      refine ⟨n, c, fun i => (hch i).choose_spec.choose, fun i => (hch i).choose, fun β f x z hb => name_ren hb, fun β F e hb => ⟨hnc, fun h => absurd rfl h, fun h => by simp at h, fun i hi => ?_, fun _ => ⟨cur, te, fz, hcur, fun i hi j v hj => ?_, (by simp)⟩⟩, by omega, hcm, hnc, fun i hi => ((hch i).choose_spec.choose_spec hi).1⟩
      · rw [layD_length]; exact ((hch i).choose_spec.choose_spec hi).2.2
      · obtain ⟨_, h2, h4⟩ := (hch i).choose_spec.choose_spec hi
        have hjl : j < ks.length := by rw [← h4, ← layD_length F i 0]; exact (List.getElem?_eq_some_iff.1 hj).1
        have := congrArg (fun l => l[j]?) (h2 β F i (fun y _ hy => hb i y hi (by omega)))
        simp only [List.getElem?_map, hj, Option.map_some, List.getElem?_take, if_pos hjl, List.getElem?_drop, Array.getElem?_toList] at this
        rw [this]
        show cur[off + (i * ks.length + j)]? = cur[off + i * ks.length + j]?
        congr 1
        omega

theorem FD_nil {W : World} {B : Nat → Nat × Nat × Fl} {j : Nat} {D : List DC} (h : FD W B j [] D) : D = [] := by cases D <;> first | rfl | exact h.elim
theorem FD_i {W : World} {B : Nat → Nat × Nat × Fl} {j : Nat} {k : IntKind} {ks : List K} {D : List DC} (h : FD W B j (.i k :: ks) D) : ∃ n r, D = .f (.i k n) :: r ∧ (k.min ≤ n ∧ n ≤ k.max) ∧ FD W B (j + 1) ks r := by
  cases D with
  | nil => exact h.elim
  | cons d r => cases d with
    | f c =>
      obtain ⟨⟨⟨n, rfl, hb⟩, _⟩, h2⟩ := h
      exact ⟨n, r, rfl, hb, h2⟩
    | n z n c => exact h.elim
theorem FD_b {W : World} {B : Nat → Nat × Nat × Fl} {j : Nat} {ks : List K} {D : List DC} (h : FD W B j (.b :: ks) D) : ∃ x r, D = .f (.b x) :: r ∧ FD W B (j + 1) ks r := by
  cases D with
  | nil => exact h.elim
  | cons d r => cases d with
    | f c =>
      obtain ⟨⟨⟨n, rfl⟩, _⟩, h2⟩ := h
      exact ⟨n, r, rfl, h2⟩
    | n z n c => exact h.elim
theorem FD_s {W : World} {B : Nat → Nat × Nat × Fl} {j : Nat} {ks : List K} {D : List DC} (h : FD W B j (.s :: ks) D) : ∃ (x : ByteArray) (r : List DC), D = .f (.s x) :: r ∧ x.size ≤ 140737488351232 ∧ FD W B (j + 1) ks r := by
  cases D with
  | nil => exact h.elim
  | cons d r => cases d with
    | f c =>
      obtain ⟨⟨⟨n, rfl, hb⟩, _⟩, h2⟩ := h
      exact ⟨n, r, rfl, hb, h2⟩
    | n z n c => exact h.elim
theorem FD_n {W : World} {B : Nat → Nat × Nat × Fl} {j : Nat} {kf ks : List K} {D : List DC} (h : FD W B j (.sl kf :: ks) D) :
    ∃ (n c : Nat) (R : Nat → List C) (r : List DC), D = .n kf.length n c :: r ∧ n ≤ c ∧ n ≤ maxLen ∧ (∀ β e, (Ck.row false false e kf.length n c R).holds β W (B j)) ∧ (∀ i, i < n → FT kf (R i)) ∧ FD W B (j + 1) ks r := by
  cases D with
  | nil => exact h.elim
  | cons d r => cases d with
    | f c =>
      exact h.1.elim
    | n z n c =>
      obtain ⟨⟨rfl, e2, e3, R, e4, e5⟩, e6⟩ := h
      exact ⟨n, c, R, r, rfl, e2, e3, e4, e5, e6⟩
/-- Records behind indices. -/
theorem list_ix {α : Type} [Inhabited α] {Pr : Nat → α → Prop} : ∀ {n : Nat}, (∀ i, i < n → ∃ x : α, Pr i x) → ∃ l : List α, l.length = n ∧ ∀ i, i < n → Pr i (l.getD i default)
  | 0, _ => ⟨[], rfl, fun i hi => by omega⟩
  | n + 1, h => by
    obtain ⟨l, h1, h2⟩ := list_ix (n := n) (fun i hi => h i (by omega))
    obtain ⟨x, hx⟩ := h n (by omega)
    refine ⟨l ++ [x], by simp [h1], fun i hi => ?_⟩
    by_cases hin : i < n
    · simp only [List.getD, List.getElem?_append_left (h1 ▸ hin)]
      exact h2 i hin
    · have : i = n := by omega
      subst this
      simpa [List.getD, ← h1] using hx

theorem FT_nil {l : List C} (h : FT [] l) : l = [] := by cases l <;> first | rfl | exact h.elim
theorem FT_i {k : IntKind} {ks : List K} {l : List C} (h : FT (.i k :: ks) l) : ∃ n r, l = .i k n :: r ∧ (k.min ≤ n ∧ n ≤ k.max) ∧ FT ks r := by
  cases l with
  | nil => exact h.elim
  | cons c r => obtain ⟨⟨n, rfl, hb⟩, h2⟩ := h; exact ⟨n, r, rfl, hb, h2⟩
theorem FT_b {ks : List K} {l : List C} (h : FT (.b :: ks) l) : ∃ x r, l = .b x :: r ∧ FT ks r := by
  cases l with
  | nil => exact h.elim
  | cons c r => obtain ⟨⟨n, rfl⟩, h2⟩ := h; exact ⟨n, r, rfl, h2⟩
theorem FT_s {ks : List K} {l : List C} (h : FT (.s :: ks) l) : ∃ (x : ByteArray) (r : List C), l = .s x :: r ∧ x.size ≤ 140737488351232 ∧ FT ks r := by
  cases l with
  | nil => exact h.elim
  | cons c r => obtain ⟨⟨n, rfl, hb⟩, h2⟩ := h; exact ⟨n, r, rfl, hb, h2⟩

theorem list_of {α : Type} [Inhabited α] (enc : α → List C) {Pr : α → Prop} {g : Nat → List C} : ∀ {n : Nat}, (∀ i, i < n → ∃ x : α, g i = enc x ∧ Pr x) → ∃ l : List α, l.length = n ∧ (∀ i, i < n → g i = enc (l.getD i default)) ∧ ∀ x ∈ l, Pr x
  | 0, _ => ⟨[], rfl, fun i hi => by omega, by simp⟩
  | n + 1, h => by
    obtain ⟨l, h1, h2, h3⟩ := list_of enc (n := n) (fun i hi => h i (by omega))
    obtain ⟨x, hx, hp⟩ := h n (by omega)
    refine ⟨l ++ [x], by simp [h1], fun i hi => ?_, fun y hy => ?_⟩
    · by_cases hin : i < n
      · rw [h2 i hin]
        simp only [List.getD, List.getElem?_append_left (h1 ▸ hin)]
      · have : i = n := by omega
        subst this
        rw [hx]
        simp [List.getD, ← h1]
    · rcases List.mem_append.1 hy with hy | hy
      · exact h3 y hy
      · rw [List.mem_singleton.1 hy]; exact hp

theorem holds_row_congr {β : Nm} {W : World} {A : Nat × Nat × Fl} {e z n c : Nat} {g g' : Nat → List C} (h : (Ck.row false false e z n c g).holds β W A) (hg : ∀ i, i < n → g i = g' i) : (Ck.row false false e z n c g').holds β W A := by
  obtain ⟨h1, h2, h3, h4, h5⟩ := h
  refine ⟨h1, h2, fun hk i hi v hv => h3 hk i hi v (by rw [hg i hi]; exact hv), fun i hi => by rw [← hg i hi]; exact h4 i hi, fun hc => ?_⟩
  obtain ⟨cur, te, fz, hb, hcc, ho⟩ := h5 hc
  exact ⟨cur, te, fz, hb, fun i hi j v hj => hcc i hi j v (by rw [hg i hi]; exact hj), fun h => by cases h⟩

theorem holds_rowK_congr {k : Bool} {β : Nm} {W : World} {A : Nat × Nat × Fl} {e z n c : Nat} {g g' : Nat → List C} (h : (Ck.row false k e z n c g).holds β W A) (hg : ∀ i, i < n → g i = g' i) : (Ck.row false k e z n c g').holds β W A := by
  obtain ⟨h1, h2, h3, h4, h5⟩ := h
  refine ⟨h1, h2, fun hk i hi v hv => h3 hk i hi v (by rw [hg i hi]; exact hv), fun i hi => by rw [← hg i hi]; exact h4 i hi, fun hc => ?_⟩
  obtain ⟨cur, te, fz, hb, hcc, ho⟩ := h5 hc
  exact ⟨cur, te, fz, hb, fun i hi j v hj => hcc i hi j v (by rw [hg i hi]; exact hj), fun h => by cases h⟩

def nmL (L : List (Nat × Nat × Fl)) : Nm := fun f _ => L.getD f (0, 0, .nil)

/-- A heap that is only read. -/
theorem fits_read {β : Nm} {W : World} {h : List Fam} (hh : ∀ f x, (get h f x).holds β W (β f x)) (hno : ∀ f x, (get h f x).owned = false) : Fits β h W :=
  ⟨hh, fun f x g y _ ho => by rw [hno] at ho; cases ho⟩

theorem get_ones {β : Nm} {W : World} : ∀ {h : List Ck} , (∀ (f : Nat) ck, h[f]? = some ck → ck.holds β W (β f 0)) → ∀ f x, (get (h.map Fam.one) f x).holds β W (β f x) := by
  intro h hh f x
  unfold get
  rw [List.getElem?_map]
  cases hf : h[f]? with
  | none => trivial
  | some ck =>
    cases x with
    | zero => exact hh f ck hf
    | succ x => trivial
theorem get_ones_own {h : List Ck} (hh : ∀ ck ∈ h, ck.owned = false) (f x : Nat) : (get (h.map Fam.one) f x).owned = false := by
  unfold get
  rw [List.getElem?_map]
  cases hf : h[f]? with
  | none => rfl
  | some ck =>
    cases x with
    | zero => exact hh ck (List.mem_of_getElem? hf)
    | succ x => rfl

/-- Names where the elements of family 0 bear slices of family 1 at position p. -/
def nmQ (A : Nat × Nat × Fl) (B : Nat → Nat → Nat × Nat × Fl) (p : Nat) : Nm := fun f x => if f = 0 then A else if f = 1 then B x p else B x (f - 100)
def Fq (p y : Nat) : Nat := if y = p then 1 else y + 100
theorem nmQ_at (A : Nat × Nat × Fl) (B : Nat → Nat → Nat × Nat × Fl) (p i y : Nat) : nmQ A B p (Fq p y) i = B i y := by
  unfold nmQ Fq
  by_cases h : y = p
  · rw [if_pos h, if_neg (by omega), if_pos rfl, h]
  · rw [if_neg h, if_neg (by omega), if_neg (by omega), Nat.add_sub_cancel]
theorem fits_nest {β : Nm} {W : World} {ck : Ck} {g : Nat → Ck} (h0 : ck.holds β W (β 0 0)) (o0 : ck.owned = false) (h1 : ∀ x, (g x).holds β W (β 1 x)) (o1 : ∀ x, (g x).owned = false) : Fits β [.one ck, .many g] W ∧ ∀ f x, (get [.one ck, .many g] f x).owned = false := by
  have hno : ∀ f x, (get [.one ck, .many g] f x).owned = false := fun f x => by
    match f, x with
    | 0, 0 => exact o0
    | 0, x + 1 => rfl
    | 1, x => exact o1 x
    | f + 2, x => simp [get, Ck.owned]
  exact ⟨fits_read (fun f x => by
    match f, x with
    | 0, 0 => exact h0
    | 0, x + 1 => trivial
    | 1, x => exact h1 x
    | f + 2, x => simp [get, Ck.holds]) hno, hno⟩

theorem fits_no (β : Nm) (W : World) : Fits β [.one .no] W ∧ ∀ f x, (get [.one .no] f x).owned = false := by
  have h : ∀ f x, get [.one .no] f x = .no := fun f x => by
    match f, x with
    | 0, 0 => rfl
    | 0, x + 1 => rfl
    | f + 1, x => simp [get]
  have hno : ∀ f x, (get [.one .no] f x).owned = false := fun f x => by rw [h]; rfl
  exact ⟨fits_read (fun f x => by rw [h]; trivial) hno, hno⟩

/-- What a claim wants of a law's contract. -/
theorem glue {P : Program} {F : Nat} {args : List T} {h : List Fam} {β : Nm} {W : World} (hc : Ctr P F args h (fun v _ => v = .c .tt)) (hf : Fits β h W) (hno : ∀ f x, (get h f x).owned = false) :
    Calls P F (args.map (T.ren β)).toArray W fun e W' => e = .returned (.bool true) ∧ Below W.heap.size W W' := by
  refine (hc.run β W hf).mono fun e W' hh => ?_
  obtain ⟨v, h', β', rfl, rfl, _, hl⟩ := hh
  exact ⟨rfl, hl.os, hl.tape, hl.out, hl.hs, fun k hk => hl.fr k hk (fun f x ho => by rw [hno] at ho; cases ho)⟩

/-- A slice among the arguments: where it lies has no spot. -/
theorem ok_spot {P : Program} {W : World} {r : Reach} {b t e : Nat} {v : Value} (hu : P.underlying t = some (.slice e)) (h : Value.okWide P W r b t v) : (∃ a n c, v = .slice a n c) ∧ ∀ a n c, v = .slice (some a) n c → a.spot = none := by
  unfold Value.okWide at h
  rw [hu] at h
  simp only at h
  unfold Cell.okWide at h
  rw [hu] at h
  have h : Cell.ok P W r b t v := by cases v <;> first | exact h | trivial
  unfold Cell.ok at h
  rw [hu] at h
  cases v with
  | slice a n c =>
    refine ⟨⟨a, n, c, rfl⟩, fun a' n' c' he => ?_⟩
    cases he
    exact h.2.2.2.1
  | _ => exact h.elim
theorem ok_agg {P : Program} {W : World} {r : Reach} {b t : Nat} {v : Value} {fs} (hu : P.underlying t = some (.struct fs)) (h : Value.okWide P W r b t v) : ∃ cs, v = .agg cs := by
  unfold Value.okWide at h
  rw [hu] at h
  obtain ⟨cs, h, _⟩ := h
  exact ⟨cs, h⟩
theorem ok_aggA {P : Program} {W : World} {r : Reach} {b t : Nat} {v : Value} {n e} (hu : P.underlying t = some (.array n e)) (h : Value.okWide P W r b t v) : ∃ cs, v = .agg cs := by
  unfold Value.okWide at h
  rw [hu] at h
  obtain ⟨cs, h, _⟩ := h
  exact ⟨cs, h⟩

section
variable {H : Type} {enc : TypeId × Value → H} {P : Program} {W : World}
/-- An argument, seen. -/
theorem arg_view {n : Nat} {t : TypeId} {ks : List K} {v : Value} {d : DataW H} {p : List MemPlace} {ts : List TypeId} {ds : List (DataW H)} {j : Nat} (hk : kindsOf P n t = some ks) (h : DataW.Trod enc P W 0 (fun _ => true) true t v d p) (hlt : ∀ x ∈ p, x.block < W.heap.size)
    (hsz : (DataW.weightsEach P ts ds).all (· ≤ reachBytes) = true) (hjt : ts[j]? = some t) (hjd : ds[j]? = some d) : VKs W ks v.cells.toList := by
  obtain ⟨fuel, h⟩ := h
  exact kindsOf_trod n fuel hk h hlt (fun q hq => by simpa using List.all_eq_true.1 hsz q (DataW.weights_mem_each hjt hjd q hq))
end
end Go.X

namespace Go.X
def rowOf {α : Type} [Inhabited α] (enc : α → List C) (l : List α) : Nat → List C := fun i => enc (l.getD i default)
theorem getD_at {α : Type} [Inhabited α] {l : List α} {i : Nat} (h : i < l.length) : l.getD i default = l[i] := by
  simp [List.getD, List.getElem?_eq_getElem h]
theorem app_rowG {α : Type} [Inhabited α] (enc : α → List C) (m : List α) (x : α) (cs : Nat → List C) (hc : cs 0 = enc x) (i : Nat) (hi : i < (m ++ [x]).length) : appF m.length (rowOf enc m) 0 cs i = rowOf enc (m ++ [x]) i := by
  unfold appF rowOf
  simp only [List.length_append, List.length_singleton] at hi
  by_cases h : i < m.length
  · rw [if_pos h]
    simp [List.getD, List.getElem?_append_left h]
  · rw [if_neg h]
    have : i = m.length := by omega
    subst this
    simp [hc, List.getD]
theorem app_rowL {α : Type} [Inhabited α] (enc : α → List C) (m x : List α) (o : Nat) (cs : Nat → List C) (hc : ∀ j, j < x.length → cs (o + j) = enc (x.getD j default)) (i : Nat) (hi : i < (m ++ x).length) : appF m.length (rowOf enc m) o cs i = rowOf enc (m ++ x) i := by
  unfold appF rowOf
  simp only [List.length_append] at hi
  by_cases h : i < m.length
  · rw [if_pos h]
    simp [List.getD, List.getElem?_append_left h]
  · rw [if_neg h, hc (i - m.length) (by omega)]
    simp [List.getD, List.getElem?_append_right (Nat.not_lt.1 h)]
theorem getD_ext {α : Type} [Inhabited α] {l m : List α} (h1 : l.length = m.length) (h2 : ∀ i, i < l.length → l.getD i default = m.getD i default) : l = m := by
  apply List.ext_getElem h1
  intro i hi hj
  have := h2 i hi
  rwa [getD_at hi, getD_at hj] at this
theorem take_snocG {α : Type} [Inhabited α] (l : List α) {k : Nat} (h : k < l.length) : l.take (k + 1) = l.take k ++ [l.getD k default] := by
  rw [← List.take_append_getElem h, getD_at h]
theorem drop_consG {α : Type} [Inhabited α] (l : List α) {k : Nat} (h : k < l.length) : l.drop k = l.getD k default :: l.drop (k + 1) := by
  rw [List.drop_eq_getElem_cons h, getD_at h]
theorem getD_set {α : Type} [Inhabited α] (l : List α) (k : Nat) (x : α) (i : Nat) (h : k < l.length) : (l.set k x).getD i default = if i = k then x else l.getD i default := by
  simp only [List.getD, List.getElem?_set]
  by_cases e : k = i
  · subst e; simp [h]
  · simp [e, Ne.symm e]
theorem take_set_snocG {α : Type} (l : List α) (k : Nat) (x : α) (h : k < l.length) : (l.set k x).take (k + 1) = l.take k ++ [x] := by
  rw [List.take_succ_eq_append_getElem (by rw [List.length_set]; exact h), List.take_set_of_le (Nat.le_refl _), List.getElem_set_self]
theorem take_set_leG {α : Type} (l : List α) (k : Nat) (x : α) {n : Nat} (h : n ≤ k) : (l.set k x).take n = l.take n := List.take_set_of_le h
def encB8 (b : UInt8) : List C := [.i .u8 (b.toNat : Nat)]
def encI (x : Int) : List C := [.i .i64 x]
abbrev mkS (l : List UInt8) : ByteArray := ⟨⟨l⟩⟩
instance : Inhabited UInt8 := ⟨0⟩
theorem bytesOf_row (l : List UInt8) (f : Nat → List C) (o n : Nat) (h : ∀ i, i < n → f (o + i) = encB8 (l.getD (o + i) default)) (hn : o + n ≤ l.length) : bytesOf f o n = mkS ((l.drop o).take n) := by
  unfold bytesOf mkS
  congr 1
  apply Array.ext
  · simp; omega
  · intro i h1 h2
    have hi : i < n := by simpa using h1
    simp only [Array.getElem_map, Array.getElem_range, h i hi, encB8, byteOf]
    rw [getD_at (by omega)]
    simp
theorem mkS_size (l : List UInt8) : (mkS l).size = l.length := rfl
theorem mkS_append (l m : List UInt8) : mkS l ++ mkS m = mkS (l ++ m) := by
  apply ByteArray.ext
  simp [ByteArray.data_append]
theorem mkS_inj {l m : List UInt8} : mkS l = mkS m ↔ l = m := by simp [mkS]
theorem mkS_of (s : ByteArray) : mkS s.data.toList = s := by cases s; rfl
theorem mkS_list (l : List UInt8) : (mkS l).data.toList = l := rfl
theorem mkS_ext (l : List UInt8) (a b : Nat) : (mkS l).extract a b = mkS ((l.take b).drop a) := by
  apply ByteArray.ext
  simp [ByteArray.data_extract, List.extract, List.drop_take]
/-! ### Steps whose side goals are closed by themselves -/
theorem xnC {p q : Prop} (h : p) (e : p = q := by (try simp only [n1, n2, n3, n4, n5, n6, n7, n8, n9, n10, n11, n12, n13, n14, n15, n16, reduceCtorEq, n17, n18, n19, n20, n21, n22]) <;> rfl) : q := e ▸ h
theorem xoC {p : Prop} (h : p := by first | rfl | omega | exact fun _ _ => rfl | assumption | (split <;> omega) | (and_intros <;> first | rfl | omega | (split <;> omega)) | (dsimp only [maxLen]; and_intros <;> omega) | (simp only [n21, n22, m9]; done) | (simp only [n21, n22, m9]; first | omega | (and_intros <;> omega)) | fail) : p := h
theorem xaC {p : Prop} (h : p := by first | (and_intros <;> first | rfl | omega) | fail) : p := h
theorem xeC {p : Prop} (h : p := by first | exact trivial | rfl | exact Nat.le_refl _ | exact (fun _ _ => rfl) | exact all_one (by rfl) | (simp only [Int.toNat_natCast, Nat.zero_add, Nat.add_zero]; done) | fail) : p := h
theorem xfC {p : Prop} (h : p := by first | (exfalso; assumption) | (exfalso; omega) | fail) : p := h
theorem xwB {a b c d : Prop} (h1 : b) (h2 : c) : a ∨ (b ∧ c) ∨ d := Or.inr (Or.inl ⟨h1, h2⟩)
theorem xwC {a a' b c d : Prop} (h1 : b) (h2 : c) : a ∨ a' ∨ (b ∧ c) ∨ d := Or.inr (Or.inr (Or.inl ⟨h1, h2⟩))
theorem xwD {a a' a2 b c d : Prop} (h1 : b) (h2 : c) : a ∨ a' ∨ a2 ∨ (b ∧ c) ∨ d := Or.inr (Or.inr (Or.inr (Or.inl ⟨h1, h2⟩)))
theorem xwE {a a' a2 a3 b c : Prop} (h1 : b) (h2 : c) : a ∨ a' ∨ a2 ∨ a3 ∨ (b ∧ c) := Or.inr (Or.inr (Or.inr (Or.inr ⟨h1, h2⟩)))
class StopC (p : Prop) : Prop where
  d : True
instance {m : Nat} {body : S → (S → Prop) → Prop} {s : S} : StopC (LoopK m body s) := ⟨trivial⟩
instance {P : Program} {F : Nat} {args : List T} {H : List Fam} {K : T → List Fam → Prop} : StopC (CallK P F args H K) := ⟨trivial⟩
instance {m : Nat} {s : S} {v : T} {Q : T → List Fam → Prop} : StopC (FinK m s v Q) := ⟨trivial⟩
instance {c : Ck} {K : Ck → Prop} : StopC (ManyK c K) := ⟨trivial⟩
instance {α : Type _} {p : α → Prop} : StopC (∃ x, p x) := ⟨trivial⟩
theorem xstp {p : Prop} [StopC p] (h : p) : p := h
class GoC (p : Prop) : Prop where
  d : True
instance {p q : Prop} : GoC (p ∧ q) := ⟨trivial⟩
instance {p q : Prop} : GoC (p ∨ q) := ⟨trivial⟩
theorem xgon {p : Prop} [GoC p] (h : p) : p := h
theorem xcal {P : Program} {F : Nat} {args : List T} {H : List Fam} {K : T → List Fam → Prop} {σ : List Sg} {nl : List Fam} {args0 : List T} {h0 : List Fam} {Q : T → List Fam → Prop} {H2 H1 : List Fam} {N n : Nat} (hc : Ctr P F args0 h0 Q) (hk : ∀ v h', Q v h' → capsP h' → RetG σ H2 h' v K)
    (hap : apart σ = true := by rfl) (hnl : nl.all nilB = true := by rfl)
    (h1 : H ++ nl = H1 := by first | exact List.append_nil _ | ((try simp only [List.cons_append, List.nil_append]) <;> rfl)) (hN : H1.length = N := by (try simp only [↓List.length_cons, ↓List.length_nil, Nat.reduceAdd]) <;> rfl) (hn : H.length = n := by (try simp only [↓List.length_cons, ↓List.length_nil, Nat.reduceAdd]) <;> rfl)
    (hH : givesF σ N H1 σ h0 = some H2 := by (try simp (maxSteps := 1000000) only [givesF, setF, updF, Fam.zeroth, Fam.rk, Ck.rk, C.rk, E.rk, T.rk, key, List.map_cons, List.map_nil, List.cons_append, List.nil_append, List.length_cons, List.length_nil, Option.map_some, Option.bind_some, Nat.reduceAdd, Nat.zero_add, Nat.add_zero, Nat.add_sub_cancel_left, Int.toNat_natCast, reps, List.all_cons, List.all_nil, C.flat, List.append_eq, Bool.not_true, Bool.and_true, Bool.or_false, Bool.or_self, Bool.not_false, List.append_nil, Bool.and_self]) <;> rfl)
    (hle : leS n H1 σ N σ h0 (belsK N (h0.map (Fam.rk σ N)) (argsK n args (args0.map (T.rk σ N)) True)) := by repeat' first | refine And.intro ?_ ?_ | exact xeC | fail) : CallK P F args H K := CallK.mk3 hc hap hnl h1 hN hn hH hle hk
theorem xret {σ : List Sg} {H h' : List Fam} {v : T} {K : T → List Fam → Prop} {H' : List Fam} {v' : T} {N : Nat} (hk : K v' H') (hN : H.length = N := by (try simp only [↓List.length_cons, ↓List.length_nil, Nat.reduceAdd]) <;> rfl) (h : givesF σ N H σ h' = some H' := by (try simp (maxSteps := 1000000) only [givesF, setF, updF, Fam.zeroth, Fam.rk, Ck.rk, C.rk, E.rk, T.rk, key, List.map_cons, List.map_nil, List.cons_append, List.nil_append, List.length_cons, List.length_nil, Option.map_some, Option.bind_some, Nat.reduceAdd, Nat.zero_add, Nat.add_zero, Nat.add_sub_cancel_left, Int.toNat_natCast, reps, List.all_cons, List.all_nil, C.flat, List.append_eq, Bool.not_true, Bool.and_true, Bool.or_false, Bool.or_self, Bool.not_false, List.append_nil, Bool.and_self]) <;> rfl) (hv : v.rk σ N = v' := by (try simp only [givesF, setF, updF, Fam.zeroth, Fam.rk, Ck.rk, C.rk, E.rk, T.rk, key, List.map_cons, List.map_nil, List.cons_append, List.nil_append, List.length_cons, List.length_nil, Option.map_some, Option.bind_some, Nat.reduceAdd, Nat.zero_add, Nat.add_zero, Nat.add_sub_cancel_left, Int.toNat_natCast, reps, List.all_cons, List.all_nil, C.flat, List.append_eq, Bool.not_true, Bool.and_true, Bool.or_false, Bool.or_self, Bool.not_false, List.append_nil, Bool.and_self]) <;> rfl) : RetG σ H h' v K := ret_mk3 hN h hv hk
end Go.X

set_option linter.unusedVariables false
set_option linter.unusedSimpArgs false
namespace Go.X
open Go.Sort
/-- What a sort of the library says of itself. -/
structure SortLaw (P : Program) (F : Nat) {α : Type} [Inhabited α] (enc : α → Value) (srt : List α → List α) : Prop where
  some : ∀ (blk off cap : Nat) (zs : List α) (w : World), Holds enc w blk off zs.toArray → blk < w.heap.size → zs.length < 4611686018427387904 →
    Calls P F #[.slice (some ⟨blk, off, none⟩) zs.length cap] w fun e w' => e = .returned (.tuple #[]) ∧ ∃ n os, w' = grow (putRow enc (Sort.ahead w n) blk off (srt zs).toArray) os
  none : ∀ (p : Option Addr) (cap : Nat) (w : World), Calls P F #[.slice p 0 cap] w fun e w' => e = .returned (.tuple #[]) ∧ w' = w
  len : ∀ l, (srt l).length = l.length

theorem sort_heap {α : Type} [Inhabited α] {enc : α → Value} {w : World} {blk off n : Nat} {d : Array α} {os : Array Obj} (hblk : blk < w.heap.size) (b : Nat) (hb : b < w.heap.size) :
    (grow (putRow enc (Sort.ahead w n) blk off d) os).heap[b]? = if b = blk then (w.heap[b]?).map (onCells (putCells enc off d)) else w.heap[b]? := by
  unfold grow putRow mapBlock Sort.ahead
  simp only
  rw [Array.getElem?_append_left (by simpa using hb), Array.getElem?_modify]
  by_cases h : blk = b
  · subst h; simp
  · rw [if_neg h, if_neg (Ne.symm h)]

theorem sort_ctr {P : Program} {F : Nat} {α : Type} [Inhabited α] {enc : α → Value} {srt : List α → List α} (H : SortLaw P F enc srt)
    (hcf : ∀ (args : Array Value) (W : World), (callFunc F args).run P W = .ok (.enter F args) W) (cen : α → C) (hce : ∀ β x, (cen x).ren β = enc x) (hfl : ∀ x, (cen x).flat = true)
    (k : Bool) (e : Nat) (zs : List α) (c : Nat) (hz : zs.length < 4611686018427387904) :
    Ctr P F [.c (.sl 0 0 1 0 zs.length c)] [.one (.row true k e 1 zs.length c (rowOf (fun x => [cen x]) zs))] fun v h => v = .t [] ∧ h = [.one (.row true k e 1 zs.length c (rowOf (fun x => [cen x]) (srt zs)))] := by
  refine ⟨hcf, fun β W hfit => ?_⟩
  have hno : ∀ (ck : Ck) f x, ¬ (f = 0 ∧ x = 0) → get [.one ck] f x = .no := by
    intro ck f x h
    match f, x with
    | 0, 0 => exact absurd ⟨rfl, rfl⟩ h
    | 0, x + 1 => rfl
    | f + 1, x => simp [get]
  have h0 := hfit.ck 0 0
  have hrow : get [.one (.row true k e 1 zs.length c (rowOf (fun x => [cen x]) zs))] 0 0 = .row true k e 1 zs.length c (rowOf (fun x => [cen x]) zs) := rfl
  rw [hrow] at h0
  obtain ⟨h1, h2, h3, h4, h5⟩ := h0
  have hlen := H.len zs
  -- the heap behind the call
  have fin : ∀ (W' : World), W.heap.size ≤ W'.heap.size → W'.os = W.os → W'.tape = W.tape → W'.output = W.output →
      (∀ b, b < W.heap.size → b ≠ (β 0 0).1 ∨ c = 0 → W'.heap[b]? = W.heap[b]?) →
      (Ck.row true k e 1 zs.length c (rowOf (fun x => [cen x]) (srt zs))).holds β W' (β 0 0) →
      ∃ v h' β', (v = T.t [] ∧ h' = [.one (.row true k e 1 zs.length c (rowOf (fun x => [cen x]) (srt zs)))]) ∧ Ending.returned (.tuple #[]) = .returned (v.ren β') ∧ v.bel h'.length ∧ Left β [.one (.row true k e 1 zs.length c (rowOf (fun x => [cen x]) zs))] W β' h' W' := by
    intro W' hs hos htp hou hfr hh
    refine ⟨_, _, β, ⟨rfl, rfl⟩, rfl, by simp [T.bel], ⟨Nat.le_refl _, fun _ _ _ => rfl, ⟨fun f x => ?_, fun f x g y hne ho hkn => ?_⟩, ⟨(fun i v hv => by cases hv), (fun f x => ?_)⟩, hos, htp, hou, hs, fun b hb hne => ?_, fun f x ho => ?_, fun f x ho => ?_⟩⟩
    · by_cases hf : f = 0 ∧ x = 0
      · obtain ⟨rfl, rfl⟩ := hf; exact hh
      · rw [hno _ f x hf]; trivial
    · by_cases hf : f = 0 ∧ x = 0
      · by_cases hg : g = 0 ∧ y = 0
        · exact absurd (by rw [hf.1, hf.2, hg.1, hg.2]) hne
        · rw [hno _ g y hg] at hkn; simp [Ck.known] at hkn
      · rw [hno _ f x hf] at ho; simp [Ck.owned] at ho
    · by_cases hf : f = 0 ∧ x = 0
      · obtain ⟨rfl, rfl⟩ := hf
        show (Ck.row true k e 1 zs.length c (rowOf (fun x => [cen x]) (srt zs))).bel 1
        intro i hi v hv
        simp only [rowOf, List.mem_singleton] at hv
        rw [hv]
        have hff : ∀ v : C, v.flat = true → v.bel 1 := by
          intro v hv
          cases v <;> first | trivial | cases hv | skip
          rename_i F l
          have : l = [] := by simpa [C.flat] using hv
          subst this
          simp [C.bel]
        exact hff _ (hfl _)
      · rw [hno _ f x hf]; trivial
    · by_cases hc : c = 0
      · exact hfr b hb (.inr hc)
      · exact hfr b hb (.inl fun e => hne 0 0 (row_owned hc) e.symm)
    · by_cases hf : f = 0 ∧ x = 0
      · obtain ⟨rfl, rfl⟩ := hf
        exact .inl ⟨0, 0, ho, rfl⟩
      · rw [hno _ f x hf] at ho; simp [Ck.owned] at ho
    · by_cases hf : f = 0 ∧ x = 0
      · obtain ⟨rfl, rfl⟩ := hf
        exact .inl ⟨0, 0, ho, rfl⟩
      · rw [hno _ f x hf] at ho; simp [Ck.known] at ho
  by_cases hz0 : zs.length = 0
  · have harg : ∃ p, ([T.c (.sl 0 0 1 0 zs.length c)].map (T.ren β)).toArray = #[.slice p 0 c] := by
      simp only [List.map_cons, List.map_nil, T.ren, C.ren, hz0]
      split
      · exact ⟨_, rfl⟩
      · exact ⟨_, rfl⟩
      · exact ⟨_, rfl⟩
    obtain ⟨p, hp⟩ := harg
    rw [hp]
    refine (H.none p c W).mono fun e' W' hh => ?_
    obtain ⟨rfl, rfl⟩ := hh
    refine fin W' (Nat.le_refl _) rfl rfl rfl (fun _ _ _ => rfl) ⟨h1, h2, fun _ i hi => by omega, fun i hi => by omega, fun hc => ?_⟩
    obtain ⟨cur, te, fz, hb, _, ho⟩ := h5 hc
    exact ⟨cur, te, fz, hb, fun i hi => by omega, ho⟩
  · have hc : c ≠ 0 := by omega
    have hlive := Fl.live_of fun h => hc (h2 h)
    obtain ⟨cur, te, fz, hb, hcells, ho⟩ := h5 hc
    obtain ⟨ho2, rfl, ho4, ho5⟩ := ho rfl
    have hblk : (β 0 0).1 < W.heap.size := (Array.getElem?_eq_some_iff.1 hb).1
    have harg : ([T.c (.sl 0 0 1 0 zs.length c)].map (T.ren β)).toArray = #[.slice (some ⟨(β 0 0).1, (β 0 0).2.1, Option.none⟩) zs.length c] := by
      simp only [List.map_cons, List.map_nil, T.ren, C.ren, hlive, place, Nat.zero_mul, Nat.add_zero]
    rw [harg]
    have hcell : ∀ j, W.cell? ⟨(β 0 0).1, (β 0 0).2.1 + j, Option.none⟩ = cur[(β 0 0).2.1 + j]? := fun j => cell_at hb
    have hH : Holds enc W (β 0 0).1 (β 0 0).2.1 zs.toArray := by
      intro j hj
      have hj' : j < zs.length := by simpa using hj
      refine ⟨?_, ?_⟩
      · rw [hcell]
        have := hcells j hj' 0 (cen (zs.getD j default)) rfl
        rw [show j * 1 + 0 = j by omega] at this
        rw [this, hce]
        simp [getD_at hj', hj']
      · unfold World.frozen?
        simp [hb]
    refine (H.some (β 0 0).1 (β 0 0).2.1 c zs W hH hblk hz).mono fun e' W' hh => ?_
    obtain ⟨rfl, n, os, rfl⟩ := hh
    have hheap := sort_heap (enc := enc) (w := W) (off := (β 0 0).2.1) (n := n) (d := (srt zs).toArray) (os := os) hblk
    refine fin _ (by simp [grow, putRow, mapBlock, Sort.ahead]) rfl rfl rfl (fun b hbs hne => ?_) ⟨h1, h2, fun _ i hi v hv => ?_, fun i hi => rfl, fun _ => ?_⟩
    · rw [hheap b hbs, if_neg (by rcases hne with h | h; exact h; exact absurd h hc)]
    · simp only [rowOf, List.mem_singleton] at hv
      rw [hv]; exact hfl _
    · refine ⟨putCells enc (β 0 0).2.1 (srt zs).toArray cur, te, (0, 0), ?_, fun i hi j v hj => ?_, fun _ => ⟨ho2, rfl, ho4, by simpa [putCells] using ho5⟩⟩
      · rw [hheap _ hblk, if_pos rfl, hb]; rfl
      · have hj0 : j = 0 := by
          have := (List.getElem?_eq_some_iff.1 hj).1
          simp [rowOf] at this; omega
        subst hj0
        simp only [rowOf, List.getElem?_cons_zero, Option.some.injEq] at hj
        subst hj
        have hi' : (β 0 0).2.1 + i < cur.size := by omega
        rw [show i * 1 + 0 = i by omega]
        unfold putCells
        rw [Array.getElem?_mapIdx, Array.getElem?_eq_getElem hi', Option.map_some, if_pos ⟨by omega, by simp [hlen]; omega⟩, hce]
        simp [getD_at (show i < (srt zs).length by omega), show i < (srt zs).length by omega]
end Go.X

namespace Go.Proofs.Ytnjakmpddghhjaa
open Go.X
set_option maxRecDepth 100000
def tb : Tb := [
  (3, ⟨1, 8, .int .i64, [.i .i64 0], true, []⟩),
  (4, ⟨1, 1, .bool, [.ff], true, []⟩),
  (5, ⟨1, 1, .int .u8, [.i .u8 0], true, []⟩),
  (9, ⟨1, 16, .str, [.s ⟨#[]⟩], true, []⟩),
  (22, ⟨1, 24, .slice 50, [.nils], true, []⟩),
  (23, ⟨1, 8, .ptr, [.nilp], true, []⟩),
  (24, ⟨1, 8, .int .i64, [.i .i64 0], true, []⟩),
  (28, ⟨1, 24, .slice 34, [.nils], true, []⟩),
  (34, ⟨5, 48, .struct [(0, 3, 1), (1, 3, 1), (2, 3, 1), (3, 3, 1), (4, 9, 1)], [.i .i64 0, .i .i64 0, .i .i64 0, .i .i64 0, .s ⟨#[]⟩], true, [.int .i64, .int .i64, .int .i64, .int .i64, .str]⟩),
  (36, ⟨1, 24, .slice 41, [.nils], true, []⟩),
  (38, ⟨4, 64, .struct [(0, 3, 1), (1, 3, 1), (2, 36, 1), (3, 22, 1)], [.i .i64 0, .i .i64 0, .nils, .nils], true, []⟩),
  (41, ⟨6, 48, .struct [(0, 3, 1), (1, 3, 1), (2, 3, 1), (3, 3, 1), (4, 3, 1), (5, 3, 1)], [.i .i64 0, .i .i64 0, .i .i64 0, .i .i64 0, .i .i64 0, .i .i64 0], true, [.int .i64, .int .i64, .int .i64, .int .i64, .int .i64, .int .i64]⟩),
  (46, ⟨1, 24, .slice 3, [.nils], true, []⟩),
  (50, ⟨5, 48, .struct [(0, 5, 1), (1, 3, 1), (2, 3, 1), (3, 3, 1), (4, 9, 1)], [.i .u8 0, .i .i64 0, .i .i64 0, .i .i64 0, .s ⟨#[]⟩], true, [.int .u8, .int .i64, .int .i64, .int .i64, .str]⟩),
  (51, ⟨1, 24, .slice 69, [.nils], true, []⟩),
  (53, ⟨6, 80, .struct [(0, 3, 1), (1, 3, 1), (2, 36, 1), (3, 51, 1), (4, 3, 1), (5, 3, 1)], [.i .i64 0, .i .i64 0, .nils, .nils, .i .i64 0, .i .i64 0], true, []⟩),
  (57, ⟨1, 8, .map 3 28, [.nilm], true, []⟩),
  (59, ⟨7, 72, .struct [(0, 3, 1), (1, 3, 1), (2, 36, 1), (3, 57, 1), (4, 3, 1), (5, 3, 1), (6, 3, 1)], [.i .i64 0, .i .i64 0, .nils, .nilm, .i .i64 0, .i .i64 0, .i .i64 0], true, []⟩),
  (69, ⟨6, 56, .struct [(0, 3, 1), (1, 3, 1), (2, 3, 1), (3, 3, 1), (4, 3, 1), (5, 9, 1)], [.i .i64 0, .i .i64 0, .i .i64 0, .i .i64 0, .i .i64 0, .s ⟨#[]⟩], true, [.int .i64, .int .i64, .int .i64, .int .i64, .int .i64, .str]⟩),
  (74, ⟨1, 8, .int .u64, [.i .u64 0], true, []⟩)]
theorem tbv : Valid tb Try.prog := Valid.mk (by kernel_rfl)
theorem mixed : Try.prog.follows .mixedOrders = true := by kernel_rfl
end Go.Proofs.Ytnjakmpddghhjaa

namespace Go.Proofs.Ytnjakmpddghhjaa
open Go.Shelf
def lays189_ren : Go.Shelf.Ren := ⟨fun | 189 => 22 | 125 => 33 | 257 => 32 | 128 => 46 | 129 => 47 | 294 => 37 | 295 => 38 | 296 => 39 | 297 => 40 | 298 => 41 | 299 => 42 | 216 => 43 | 300 => 44 | 301 => 45 | 328 => 48 | 329 => 49 | 330 => 50 | 331 => 51 | 332 => 52 | 215 => 53 | 343 => 54 | n => n, fun | 28 => 46 | 3 => 3 | 46 => 74 | 0 => 0 | 51 => 86 | 53 => 88 | 4 => 4 | 183 => 80 | 182 => 79 | 131 => 62 | 5 => 5 | 9 => 9 | 218 => 89 | 222 => 93 | 228 => 95 | 229 => 96 | n => n, fun | n => n⟩
theorem lays189 : Go.Proofs.Lays.n189 Try.prog lays189_ren := {
  mixed := by kernel_rfl
  f125 := Try.func33.trans (congrArg some (by kernel_rfl))
  f128 := Try.func46.trans (congrArg some (by kernel_rfl))
  f129 := Try.func47.trans (congrArg some (by kernel_rfl))
  f189 := Try.func22.trans (congrArg some (by kernel_rfl))
  f215 := Try.func53.trans (congrArg some (by kernel_rfl))
  f216 := Try.func43.trans (congrArg some (by kernel_rfl))
  f257 := Try.func32.trans (congrArg some (by kernel_rfl))
  f294 := Try.func37.trans (congrArg some (by kernel_rfl))
  f295 := Try.func38.trans (congrArg some (by kernel_rfl))
  f296 := Try.func39.trans (congrArg some (by kernel_rfl))
  f297 := Try.func40.trans (congrArg some (by kernel_rfl))
  f298 := Try.func41.trans (congrArg some (by kernel_rfl))
  f299 := Try.func42.trans (congrArg some (by kernel_rfl))
  f300 := Try.func44.trans (congrArg some (by kernel_rfl))
  f301 := Try.func45.trans (congrArg some (by kernel_rfl))
  f328 := Try.func48.trans (congrArg some (by kernel_rfl))
  f329 := Try.func49.trans (congrArg some (by kernel_rfl))
  f330 := Try.func50.trans (congrArg some (by kernel_rfl))
  f331 := Try.func51.trans (congrArg some (by kernel_rfl))
  f332 := Try.func52.trans (congrArg some (by kernel_rfl))
  f343 := Try.func54.trans (congrArg some (by kernel_rfl))
  t0 := Try.underlying0
  a0 := Try.isAgg0
  z0 := Try.sizeOf0
  v0 := Try.zeroValue0
  t3 := Try.underlying3
  a3 := Try.isAgg3
  z3 := Try.sizeOf3
  v3 := Try.zeroValue3
  t4 := Try.underlying4
  a4 := Try.isAgg4
  z4 := Try.sizeOf4
  v4 := Try.zeroValue4
  t5 := Try.underlying5
  a5 := Try.isAgg5
  z5 := Try.sizeOf5
  v5 := Try.zeroValue5
  t9 := Try.underlying9
  a9 := Try.isAgg9
  z9 := Try.sizeOf9
  v9 := Try.zeroValue9
  t28 := Try.underlying46
  a28 := Try.isAgg46
  z28 := Try.sizeOf46
  v28 := Try.zeroValue46
  t46 := Try.underlying74
  a46 := Try.isAgg74
  z46 := Try.sizeOf74
  v46 := Try.zeroValue74
  t51 := Try.underlying86
  a51 := Try.isAgg86
  z51 := Try.sizeOf86
  v51 := Try.zeroValue86
  t53 := Try.underlying88
  a53 := Try.isAgg88
  z53 := Try.sizeOf88
  v53 := Try.zeroValue88
  t131 := Try.underlying62
  a131 := Try.isAgg62
  z131 := Try.sizeOf62
  v131 := Try.zeroValue62
  t182 := Try.underlying79
  a182 := Try.isAgg79
  z182 := Try.sizeOf79
  v182 := Try.zeroValue79
  t183 := Try.underlying80
  a183 := Try.isAgg80
  z183 := Try.sizeOf80
  v183 := Try.zeroValue80
  t218 := Try.underlying89
  a218 := Try.isAgg89
  z218 := Try.sizeOf89
  v218 := Try.zeroValue89
  t222 := Try.underlying93
  a222 := Try.isAgg93
  z222 := Try.sizeOf93
  v222 := Try.zeroValue93
  t228 := Try.underlying95
  a228 := Try.isAgg95
  z228 := Try.sizeOf95
  v228 := Try.zeroValue95
  t229 := Try.underlying96
  a229 := Try.isAgg96
  z229 := Try.sizeOf96
  v229 := Try.zeroValue96 }
open Go.X
theorem sortLaw : SortLaw Try.prog 22 (Value.int .i64) (fun l => l.mergeSort fun x y => decide (x ≤ y)) :=
  ⟨fun blk off cap zs w h1 h2 h3 => Any.slices_Sort_int lays189 blk off cap zs w h1 h2 h3, fun p cap w => Any.slices_Sort_int_none lays189 p cap w, fun l => List.length_mergeSort l⟩
def srtI (l : List Int) : List Int := l.mergeSort fun x y => decide (x ≤ y)
theorem cSort (e : Nat) (zs : List Int) (c : Nat) (hz : zs.length < 4611686018427387904) :
    Ctr Try.prog 22 [.c (.sl 0 0 1 0 zs.length c)] [.one (.row true false e 1 zs.length c (rowOf Go.X.encI zs))] fun v h => v = .t [] ∧ h = [.one (.row true false e 1 zs.length c (rowOf Go.X.encI (srtI zs)))] :=
  sort_ctr sortLaw (fun _ _ => by kernel_rfl) (fun x => .i .i64 x) (fun _ _ => rfl) (fun _ => rfl) false e zs c hz
end Go.Proofs.Ytnjakmpddghhjaa

namespace Go.Proofs.Ytnjakmpddghhjaa
open Go.X
set_option linter.unusedSimpArgs false
set_option linter.unusedVariables false
structure Flt where
  (kd a b fr un ex : Int)
deriving Inhabited
def encF (f : Flt) : List C := [.i .i64 f.kd, .i .i64 f.a, .i .i64 f.b, .i .i64 f.fr, .i .i64 f.un, .i .i64 f.ex]
abbrev fltR (w : Bool) (l : List Flt) (c : Nat) : Ck := .row w false 41 6 l.length c (rowOf encF l)
/-- A fault is valid for so many nodes. -/
def okF (m : Int) (f : Flt) : Prop := (1 ≤ m ∧ m ≤ 8) ∧ (1 ≤ f.kd ∧ f.kd ≤ 4) ∧ (0 ≤ f.a ∧ f.a < m) ∧ (0 ≤ f.b ∧ f.b < m) ∧ f.a ≠ f.b ∧ (0 ≤ f.fr ∧ f.fr ≤ f.un) ∧ f.un ≤ 1099511627776 ∧ (0 ≤ f.ex ∧ f.ex ≤ 1099511627776) ∧ (f.kd = 1 ∨ f.kd = 4 → f.ex = 0)
instance (m : Int) (f : Flt) : Decidable (okF m f) := by unfold okF; infer_instance
def chkF (m : Int) (f : Flt) : Int := if okF m f then 0 else 4
set_option maxRecDepth 10000 in
theorem cvalid (n k : Int) : Ctr Try.prog 23 [.c (.i .i64 n), .c (.i .i64 k)] [] fun v h => v = .c (.b (decide (0 ≤ k ∧ k < n))) ∧ h = [] := by
  refine Ctr.mk' tbv mixed Try.func23 rfl rfl rfl (fun _ _ => by kernel_rfl) (by kernel_rfl) (by rfl) (by rfl) (by (repeat' first | refine And.intro ?_ ?_ | exact xeC | fail)) ?_
  repeat' (first | (fail_if_success (with_reducible refine xstp ?_)); first | ((with_reducible refine And.intro (fun (hb : _ = true) => ?_) (fun (hb : _ = false) => ?_)) <;> replace hb := xnC hb <;> (try first | exact xfC | exact bff hb (by assumption) | exact bff (by assumption) hb)) | (with_reducible refine Both.mk ?_ ?_) | ((with_reducible refine And.intro ?_ ?_); focus exact xoC) | ((with_reducible refine Or.inl ⟨?_, ?_, ?_⟩); (focus rfl); focus exact xaC) | ((with_reducible refine xwB ?_ ?_); focus exact xaC) | ((with_reducible refine xwC ?_ ?_); focus exact xaC) | ((with_reducible refine xwD ?_ ?_); focus exact xaC) | ((with_reducible refine xwE ?_ ?_); focus exact xaC) | (with_reducible intro hc; (try simp only [capsP, and_true] at hc); (try exact xfC)) | ((fail_if_success (with_reducible first | refine xgon ?_ | intro _)); (conv => whnf); (fail_if_success (fail_if_success (with_reducible first | refine xstp ?_ | refine Both.mk ?_ ?_ | refine xgon ?_ | intro _)))))
  all_goals (
    refine FinK.mk ⟨[], _, _, ⟨rfl, rfl⟩, ?_⟩; (repeat' first | refine And.intro ?_ ?_ | exact xeC | fail)
    all_goals (first | exact decide_eq_true (by omega) | exact decide_eq_false (by omega) | exact (decide_eq_true (by omega)).symm | exact (decide_eq_false (by omega)).symm | exact decide_eq_decide.2 (by omega)))
theorem rH14aA0 {σ : List Sg} {H h' : List Fam} {v : T} {K : T → List Fam → Prop} {H' : List Fam} {v' : T} {N : Nat} (hk : K v' H') (hN : H.length = N := by (try simp only [↓List.length_cons, ↓List.length_nil, Nat.reduceAdd]) <;> rfl) (h : givesF σ N H σ h' = some H' := by (try simp (maxSteps := 1000000) only [givesF, setF, updF, Fam.zeroth, Fam.rk, Ck.rk, C.rk, E.rk, T.rk, key, List.map_cons, List.map_nil, List.cons_append, List.nil_append, List.length_cons, List.length_nil, Option.map_some, Option.bind_some, Nat.reduceAdd, Nat.zero_add, Nat.add_zero, Nat.add_sub_cancel_left, Int.toNat_natCast, reps, List.all_cons, List.all_nil, C.flat, List.append_eq, Bool.not_true, Bool.and_true, Bool.or_false, Bool.or_self, Bool.not_false, List.append_nil, Bool.and_self, encF]) <;> rfl) (hv : v.rk σ N = v' := by (try simp only [givesF, setF, updF, Fam.zeroth, Fam.rk, Ck.rk, C.rk, E.rk, T.rk, key, List.map_cons, List.map_nil, List.cons_append, List.nil_append, List.length_cons, List.length_nil, Option.map_some, Option.bind_some, Nat.reduceAdd, Nat.zero_add, Nat.add_zero, Nat.add_sub_cancel_left, Int.toNat_natCast, reps, List.all_cons, List.all_nil, C.flat, List.append_eq, Bool.not_true, Bool.and_true, Bool.or_false, Bool.or_self, Bool.not_false, List.append_nil, Bool.and_self, encF]) <;> rfl) : RetG σ H h' v K := ret_mk3 hN h hv hk
set_option maxRecDepth 10000 in
set_option maxHeartbeats 4000000 in
theorem cCheck (m : Int) (f : Flt) : Ctr Try.prog 13 [.c (.i .i64 m), .a (encF f)] [] fun v h => v = .c (.i .i64 (chkF m f)) ∧ h = [] := by
  have hno : ¬ okF m f → chkF m f = 4 := fun h => if_neg h
  have hys : okF m f → chkF m f = 0 := fun h => if_pos h
  refine Ctr.mk' tbv mixed Try.func13 rfl rfl rfl (fun _ _ => by kernel_rfl) (by kernel_rfl) (by rfl) (by rfl) (by (repeat' first | refine And.intro ?_ ?_ | exact xeC | fail)) ?_
  repeat' (first | (fail_if_success (with_reducible refine xstp ?_)); first | ((with_reducible refine And.intro (fun (hb : _ = true) => ?_) (fun (hb : _ = false) => ?_)) <;> replace hb := xnC hb <;> (try first | exact xfC | exact bff hb (by assumption) | exact bff (by assumption) hb)) | (with_reducible refine Both.mk ?_ ?_) | ((with_reducible refine And.intro ?_ ?_); focus exact xoC) | ((with_reducible refine Or.inl ⟨?_, ?_, ?_⟩); (focus rfl); focus exact xaC) | ((with_reducible refine xwB ?_ ?_); focus exact xaC) | ((with_reducible refine xwC ?_ ?_); focus exact xaC) | ((with_reducible refine xwD ?_ ?_); focus exact xaC) | ((with_reducible refine xwE ?_ ?_); focus exact xaC) | (with_reducible intro hc; (try simp only [capsP, and_true] at hc); (try exact xfC)) | ((fail_if_success (with_reducible first | refine xgon ?_ | intro _)); (conv => whnf); (fail_if_success (fail_if_success (with_reducible first | refine xstp ?_ | refine Both.mk ?_ ?_ | refine xgon ?_ | intro _)))))
  all_goals try (
    rw [hno (fun h => by unfold okF at h; omega)]
    refine FinK.mk ⟨[], _, _, ⟨rfl, rfl⟩, ?_⟩; (repeat' first | refine And.intro ?_ ?_ | exact xeC | fail)
    done)
  all_goals (
    refine xcal (σ := []) (nl := []) (cvalid m f.a) ?_
    rintro v h' ⟨rfl, rfl⟩ hcaps
    refine rH14aA0 ?_
    repeat' (first | (fail_if_success (with_reducible refine xstp ?_)); first | ((with_reducible refine And.intro (fun (hb : _ = true) => ?_) (fun (hb : _ = false) => ?_)) <;> replace hb := xnC hb <;> (try first | exact xfC | exact bff hb (by assumption) | exact bff (by assumption) hb)) | (with_reducible refine Both.mk ?_ ?_) | ((with_reducible refine And.intro ?_ ?_); focus exact xoC) | ((with_reducible refine Or.inl ⟨?_, ?_, ?_⟩); (focus rfl); focus exact xaC) | ((with_reducible refine xwB ?_ ?_); focus exact xaC) | ((with_reducible refine xwC ?_ ?_); focus exact xaC) | ((with_reducible refine xwD ?_ ?_); focus exact xaC) | ((with_reducible refine xwE ?_ ?_); focus exact xaC) | (with_reducible intro hc; (try simp only [capsP, and_true] at hc); (try exact xfC)) | ((fail_if_success (with_reducible first | refine xgon ?_ | intro _)); (conv => whnf); (fail_if_success (fail_if_success (with_reducible first | refine xstp ?_ | refine Both.mk ?_ ?_ | refine xgon ?_ | intro _)))))
    all_goals try (
      rw [hno (fun h => by unfold okF at h; omega)]
      refine FinK.mk ⟨[], _, _, ⟨rfl, rfl⟩, ?_⟩; (repeat' first | refine And.intro ?_ ?_ | exact xeC | fail)
      done))
  all_goals (
    refine xcal (σ := []) (nl := []) (cvalid m f.b) ?_
    rintro v h' ⟨rfl, rfl⟩ hcaps
    refine rH14aA0 ?_
    repeat' (first | (fail_if_success (with_reducible refine xstp ?_)); first | ((with_reducible refine And.intro (fun (hb : _ = true) => ?_) (fun (hb : _ = false) => ?_)) <;> replace hb := xnC hb <;> (try first | exact xfC | exact bff hb (by assumption) | exact bff (by assumption) hb)) | (with_reducible refine Both.mk ?_ ?_) | ((with_reducible refine And.intro ?_ ?_); focus exact xoC) | ((with_reducible refine Or.inl ⟨?_, ?_, ?_⟩); (focus rfl); focus exact xaC) | ((with_reducible refine xwB ?_ ?_); focus exact xaC) | ((with_reducible refine xwC ?_ ?_); focus exact xaC) | ((with_reducible refine xwD ?_ ?_); focus exact xaC) | ((with_reducible refine xwE ?_ ?_); focus exact xaC) | (with_reducible intro hc; (try simp only [capsP, and_true] at hc); (try exact xfC)) | ((fail_if_success (with_reducible first | refine xgon ?_ | intro _)); (conv => whnf); (fail_if_success (fail_if_success (with_reducible first | refine xstp ?_ | refine Both.mk ?_ ?_ | refine xgon ?_ | intro _)))))
    all_goals try (
      rw [hno (fun h => by unfold okF at h; omega)]
      refine FinK.mk ⟨[], _, _, ⟨rfl, rfl⟩, ?_⟩; (repeat' first | refine And.intro ?_ ?_ | exact xeC | fail)
      done))
  all_goals (
    rw [hys (by unfold okF; omega)]
    refine FinK.mk ⟨[], _, _, ⟨rfl, rfl⟩, ?_⟩; (repeat' first | refine And.intro ?_ ?_ | exact xeC | fail)
    done)
set_option maxRecDepth 10000 in
set_option maxHeartbeats 4000000 in
theorem cCheckR (m : Int) (f : Flt) : Ctr Try.prog 14 [.c (.i .i64 m), .a (encF f)] [] fun v h => v = .c (.i .i64 (chkF m f)) ∧ h = [] := by
  have hno : ¬ okF m f → chkF m f = 4 := fun h => if_neg h
  have hys : okF m f → chkF m f = 0 := fun h => if_pos h
  refine Ctr.mk' tbv mixed Try.func14 rfl rfl rfl (fun _ _ => by kernel_rfl) (by kernel_rfl) (by rfl) (by rfl) (by (repeat' first | refine And.intro ?_ ?_ | exact xeC | fail)) ?_
  repeat' (first | (fail_if_success (with_reducible refine xstp ?_)); first | ((with_reducible refine And.intro (fun (hb : _ = true) => ?_) (fun (hb : _ = false) => ?_)) <;> replace hb := xnC hb <;> (try first | exact xfC | exact bff hb (by assumption) | exact bff (by assumption) hb)) | (with_reducible refine Both.mk ?_ ?_) | ((with_reducible refine And.intro ?_ ?_); focus exact xoC) | ((with_reducible refine Or.inl ⟨?_, ?_, ?_⟩); (focus rfl); focus exact xaC) | ((with_reducible refine xwB ?_ ?_); focus exact xaC) | ((with_reducible refine xwC ?_ ?_); focus exact xaC) | ((with_reducible refine xwD ?_ ?_); focus exact xaC) | ((with_reducible refine xwE ?_ ?_); focus exact xaC) | (with_reducible intro hc; (try simp only [capsP, and_true] at hc); (try exact xfC)) | ((fail_if_success (with_reducible first | refine xgon ?_ | intro _)); (conv => whnf); (fail_if_success (fail_if_success (with_reducible first | refine xstp ?_ | refine Both.mk ?_ ?_ | refine xgon ?_ | intro _)))))
  all_goals (
    first
      | rw [hno (fun h => by unfold okF at h; omega)]
      | rw [hys (by unfold okF; omega)]
    refine FinK.mk ⟨[], _, _, ⟨rfl, rfl⟩, ?_⟩; (repeat' first | refine And.intro ?_ ?_ | exact xeC | fail)
    done)
/-- What New answers. -/
def newE (m lat : Int) (l : List Flt) : Int :=
  if ¬ ((1 ≤ m ∧ m ≤ 8) ∧ (0 ≤ lat ∧ lat ≤ 1099511627776)) then 4 else if 64 < l.length then 3 else if ∀ f ∈ l, okF m f then 0 else 4
theorem newE_no {m lat : Int} {l : List Flt} (h : ¬ ((1 ≤ m ∧ m ≤ 8) ∧ (0 ≤ lat ∧ lat ≤ 1099511627776))) : newE m lat l = 4 := if_pos h
theorem newE_long {m lat : Int} {l : List Flt} (h : (1 ≤ m ∧ m ≤ 8) ∧ (0 ≤ lat ∧ lat ≤ 1099511627776)) (h2 : 64 < l.length) : newE m lat l = 3 := by
  unfold newE; rw [if_neg (not_not_intro h), if_pos h2]
theorem newE_bad {m lat : Int} {l : List Flt} (h : (1 ≤ m ∧ m ≤ 8) ∧ (0 ≤ lat ∧ lat ≤ 1099511627776)) (h2 : ¬ 64 < l.length) {i : Nat} (hi : i < l.length) (hf : ¬ okF m (l.getD i default)) : newE m lat l = 4 := by
  unfold newE; rw [if_neg (not_not_intro h), if_neg h2, if_neg (fun hA => hf (hA _ (by rw [getD_at hi]; exact List.getElem_mem _)))]
theorem newE_ok {m lat : Int} {l : List Flt} (h : (1 ≤ m ∧ m ≤ 8) ∧ (0 ≤ lat ∧ lat ≤ 1099511627776)) (h2 : ¬ 64 < l.length) (hf : ∀ i, i < l.length → okF m (l.getD i default)) : newE m lat l = 0 := by
  unfold newE; rw [if_neg (not_not_intro h), if_neg h2, if_pos (fun f hm => by
    obtain ⟨i, hi, rfl⟩ := List.getElem_of_mem hm
    rw [← getD_at hi]; exact hf i hi)]
theorem chk_ne {m : Int} {f : Flt} (h : ¬ chkF m f = 0) : ¬ okF m f ∧ chkF m f = 4 := by
  have h2 : ¬ okF m f := fun h2 => h (if_pos h2)
  exact ⟨h2, if_neg h2⟩
theorem chk_eq {m : Int} {f : Flt} (h : chkF m f = 0) : okF m f := by
  by_cases h2 : okF m f
  · exact h2
  · rw [show chkF m f = 4 from if_neg h2] at h; omega
set_option maxRecDepth 10000 in
theorem cClone (l : List Flt) (c : Nat) (hl : l.length ≤ 64) (w : Bool) :
    Ctr Try.prog 19 [.c (.sl 0 0 6 0 l.length c)] [.one (fltR w l c)]
      fun v h => ∃ c', v = .c (.sl 1 0 6 0 l.length c') ∧ h = [.one (fltR w l c), .one (fltR true l c')] := by
  refine Ctr.mk' tbv mixed Try.func19 rfl rfl rfl (fun _ _ => by kernel_rfl) (by kernel_rfl) (by rfl) (by rfl) (by (repeat' first | refine And.intro ?_ ?_ | exact xeC | fail)) ?_
  repeat' (first | (fail_if_success (with_reducible refine xstp ?_)); first | ((with_reducible refine And.intro (fun (hb : _ = true) => ?_) (fun (hb : _ = false) => ?_)) <;> replace hb := xnC hb <;> (try first | exact xfC | exact bff hb (by assumption) | exact bff (by assumption) hb)) | (with_reducible refine Both.mk ?_ ?_) | ((with_reducible refine And.intro ?_ ?_); focus exact xoC) | ((with_reducible refine Or.inl ⟨?_, ?_, ?_⟩); (focus rfl); focus exact xaC) | ((with_reducible refine xwB ?_ ?_); focus exact xaC) | ((with_reducible refine xwC ?_ ?_); focus exact xaC) | ((with_reducible refine xwD ?_ ?_); focus exact xaC) | ((with_reducible refine xwE ?_ ?_); focus exact xaC) | (with_reducible intro hc; (try simp only [capsP, and_true] at hc); (try exact xfC)) | ((fail_if_success (with_reducible first | refine xgon ?_ | intro _)); (conv => whnf); (fail_if_success (fail_if_success (with_reducible first | refine xstp ?_ | refine Both.mk ?_ ?_ | refine xgon ?_ | intro _)))))
  · have h0 : c = 0 := ‹_ → c = 0› ‹_›
    have : l = [] := List.eq_nil_of_length_eq_zero (by omega)
    subst this
    refine FinK.mk ⟨[0, 7], _, _, ⟨0, rfl, rfl⟩, ?_⟩
    (repeat' first | refine And.intro ?_ ?_ | exact xeC | fail)
  · rename_i c2
    refine FinK.mk ⟨[0, 2], _, _, ⟨c2, rfl, rfl⟩, ?_⟩
    (repeat' first | refine And.intro ?_ ?_ | exact xeC | fail)
    · omega
    · intro i hi
      unfold appF
      rw [if_neg (by omega)]
      simp
end Go.Proofs.Ytnjakmpddghhjaa

namespace Go.Proofs.Ytnjakmpddghhjaa
open Go.X
set_option linter.unusedSimpArgs false
set_option linter.unusedVariables false
structure Arv where
  (at_ fr to no cp : Int) (d : ByteArray)
instance : Inhabited Arv := ⟨⟨0, 0, 0, 0, 0, ByteArray.empty⟩⟩
def encR (a : Arv) : List C := [.i .i64 a.at_, .i .i64 a.fr, .i .i64 a.to, .i .i64 a.no, .i .i64 a.cp, .s a.d]
abbrev arvR (w : Bool) (l : List Arv) (c : Nat) : Ck := .row w false 69 6 l.length c (rowOf encR l)
def apl (f : Flt) (t fr to : Int) : Prop := (f.fr ≤ t ∧ t < f.un) ∧ ((f.a = fr ∧ f.b = to) ∨ (f.kd = 4 ∧ f.a = to ∧ f.b = fr))
instance (f : Flt) (t fr to : Int) : Decidable (apl f t fr to) := by unfold apl; infer_instance
set_option maxRecDepth 10000 in
theorem cApplies (f : Flt) (t fr to : Int) : Ctr Try.prog 35 [.a (encF f), .c (.i .i64 t), .c (.i .i64 fr), .c (.i .i64 to)] [] fun v h => v = .c (.b (decide (apl f t fr to))) ∧ h = [] := by
  refine Ctr.mk' tbv mixed Try.func35 rfl rfl rfl (fun _ _ => by kernel_rfl) (by kernel_rfl) (by rfl) (by rfl) (by (repeat' first | refine And.intro ?_ ?_ | exact xeC | fail)) ?_
  repeat' (first | (fail_if_success (with_reducible refine xstp ?_)); first | ((with_reducible refine And.intro (fun (hb : _ = true) => ?_) (fun (hb : _ = false) => ?_)) <;> replace hb := xnC hb <;> (try first | exact xfC | exact bff hb (by assumption) | exact bff (by assumption) hb)) | (with_reducible refine Both.mk ?_ ?_) | ((with_reducible refine And.intro ?_ ?_); focus exact xoC) | ((with_reducible refine Or.inl ⟨?_, ?_, ?_⟩); (focus rfl); focus exact xaC) | ((with_reducible refine xwB ?_ ?_); focus exact xaC) | ((with_reducible refine xwC ?_ ?_); focus exact xaC) | ((with_reducible refine xwD ?_ ?_); focus exact xaC) | ((with_reducible refine xwE ?_ ?_); focus exact xaC) | (with_reducible intro hc; (try simp only [capsP, and_true] at hc); (try exact xfC)) | ((fail_if_success (with_reducible first | refine xgon ?_ | intro _)); (conv => whnf); (fail_if_success (fail_if_success (with_reducible first | refine xstp ?_ | refine Both.mk ?_ ?_ | refine xgon ?_ | intro _)))))
  all_goals (
    refine FinK.mk ⟨[], _, _, ⟨rfl, rfl⟩, ?_⟩; (repeat' first | refine And.intro ?_ ?_ | exact xeC | fail)
    all_goals (first | exact decide_eq_true (by unfold apl; omega) | exact decide_eq_false (by unfold apl; omega) | exact (decide_eq_true (by unfold apl; omega)).symm | exact (decide_eq_false (by unfold apl; omega)).symm | exact decide_eq_decide.2 (by unfold apl; omega)))
/-- A network of the reference. -/
structure Nt where
  (m lat : Int) (F : List Flt) (P : List Arv) (cnt last : Int)
abbrev ntC (N : Nt) (c p k : Nat) : Ck := .cells true [.i .i64 N.m, .i .i64 N.lat, .sl 1 0 6 0 N.F.length c, .sl p 0 6 0 N.P.length k, .i .i64 N.cnt, .i .i64 N.last]
abbrev ntH (N : Nt) (c k : Nat) : List Fam := [.one (ntC N c 2 k), .one (fltR true N.F c), .one (arvR true N.P k)]
set_option maxRecDepth 10000 in
theorem cNode (N : Nt) (c k : Nat) (q : Int) : Ctr Try.prog 34 [.c (.p 0 0 0), .c (.i .i64 q)] [.one (ntC N c 2 k), .one .no, .one .no] fun v h => v = .c (.b (decide (0 ≤ q ∧ q < N.m))) ∧ h = [.one (ntC N c 2 k), .one .no, .one .no] := by
  refine Ctr.mk' tbv mixed Try.func34 rfl rfl rfl (fun _ _ => by kernel_rfl) (by kernel_rfl) (by rfl) (by rfl) (by (repeat' first | refine And.intro ?_ ?_ | exact xeC | fail)) ?_
  repeat' (first | (fail_if_success (with_reducible refine xstp ?_)); first | ((with_reducible refine And.intro (fun (hb : _ = true) => ?_) (fun (hb : _ = false) => ?_)) <;> replace hb := xnC hb <;> (try first | exact xfC | exact bff hb (by assumption) | exact bff (by assumption) hb)) | (with_reducible refine Both.mk ?_ ?_) | ((with_reducible refine And.intro ?_ ?_); focus exact xoC) | ((with_reducible refine Or.inl ⟨?_, ?_, ?_⟩); (focus rfl); focus exact xaC) | ((with_reducible refine xwB ?_ ?_); focus exact xaC) | ((with_reducible refine xwC ?_ ?_); focus exact xaC) | ((with_reducible refine xwD ?_ ?_); focus exact xaC) | ((with_reducible refine xwE ?_ ?_); focus exact xaC) | (with_reducible intro hc; (try simp only [capsP, and_true] at hc); (try exact xfC)) | ((fail_if_success (with_reducible first | refine xgon ?_ | intro _)); (conv => whnf); (fail_if_success (fail_if_success (with_reducible first | refine xstp ?_ | refine Both.mk ?_ ?_ | refine xgon ?_ | intro _)))))
  all_goals (
    refine FinK.mk ⟨[0, 1, 2], _, _, ⟨rfl, rfl⟩, ?_⟩; (repeat' first | refine And.intro ?_ ?_ | exact xeC | fail)
    all_goals (first | exact decide_eq_true (by omega) | exact decide_eq_false (by omega) | exact (decide_eq_true (by omega)).symm | exact (decide_eq_false (by omega)).symm | exact decide_eq_decide.2 (by omega)))
theorem rH14aB0 {σ : List Sg} {H h' : List Fam} {v : T} {K : T → List Fam → Prop} {H' : List Fam} {v' : T} {N : Nat} (hk : K v' H') (hN : H.length = N := by (try simp only [↓List.length_cons, ↓List.length_nil, Nat.reduceAdd]) <;> rfl) (h : givesF σ N H σ h' = some H' := by (try simp (maxSteps := 1000000) only [givesF, setF, updF, Fam.zeroth, Fam.rk, Ck.rk, C.rk, E.rk, T.rk, key, List.map_cons, List.map_nil, List.cons_append, List.nil_append, List.length_cons, List.length_nil, Option.map_some, Option.bind_some, Nat.reduceAdd, Nat.zero_add, Nat.add_zero, Nat.add_sub_cancel_left, Int.toNat_natCast, reps, List.all_cons, List.all_nil, C.flat, List.append_eq, Bool.not_true, Bool.and_true, Bool.or_false, Bool.or_self, Bool.not_false, List.append_nil, Bool.and_self, encF]) <;> rfl) (hv : v.rk σ N = v' := by (try simp only [givesF, setF, updF, Fam.zeroth, Fam.rk, Ck.rk, C.rk, E.rk, T.rk, key, List.map_cons, List.map_nil, List.cons_append, List.nil_append, List.length_cons, List.length_nil, Option.map_some, Option.bind_some, Nat.reduceAdd, Nat.zero_add, Nat.add_zero, Nat.add_sub_cancel_left, Int.toNat_natCast, reps, List.all_cons, List.all_nil, C.flat, List.append_eq, Bool.not_true, Bool.and_true, Bool.or_false, Bool.or_self, Bool.not_false, List.append_nil, Bool.and_self, encF]) <;> rfl) : RetG σ H h' v K := ret_mk3 hN h hv hk
set_option maxRecDepth 10000 in
set_option maxHeartbeats 4000000 in
theorem cNewR (m lat : Int) (l : List Flt) (c : Nat) (w : Bool) (hl : l.length ≤ 9223372036854775807) :
    Ctr Try.prog 15 [.c (.i .i64 m), .c (.i .i64 lat), .c (.sl 0 0 6 0 l.length c)] [.one (fltR w l c)]
      fun v h => (newE m lat l ≠ 0 ∧ v = .t [.c .nilp, .c (.i .i64 (newE m lat l))] ∧ h = [.one (fltR w l c)]) ∨ 
       (newE m lat l = 0 ∧ ∃ c', v = .t [.c (.p 1 0 0), .c (.i .i64 0)] ∧ h = [.one (fltR w l c), .one (.cells true [.i .i64 m, .i .i64 lat, .sl 2 0 6 0 l.length c', .sl 3 0 6 0 0 0, .i .i64 0, .i .i64 0]), .one (fltR true l c'), .one (arvR true [] 0)]) := by
  refine Ctr.mk' tbv mixed Try.func15 rfl rfl rfl (fun _ _ => by kernel_rfl) (by kernel_rfl) (by rfl) (by rfl) (by (repeat' first | refine And.intro ?_ ?_ | exact xeC | fail)) ?_
  repeat' (first | (fail_if_success (with_reducible refine xstp ?_)); first | ((with_reducible refine And.intro (fun (hb : _ = true) => ?_) (fun (hb : _ = false) => ?_)) <;> replace hb := xnC hb <;> (try first | exact xfC | exact bff hb (by assumption) | exact bff (by assumption) hb)) | (with_reducible refine Both.mk ?_ ?_) | ((with_reducible refine And.intro ?_ ?_); focus exact xoC) | ((with_reducible refine Or.inl ⟨?_, ?_, ?_⟩); (focus rfl); focus exact xaC) | ((with_reducible refine xwB ?_ ?_); focus exact xaC) | ((with_reducible refine xwC ?_ ?_); focus exact xaC) | ((with_reducible refine xwD ?_ ?_); focus exact xaC) | ((with_reducible refine xwE ?_ ?_); focus exact xaC) | (with_reducible intro hc; (try simp only [capsP, and_true] at hc); (try exact xfC)) | ((fail_if_success (with_reducible first | refine xgon ?_ | intro _)); (conv => whnf); (fail_if_success (fail_if_success (with_reducible first | refine xstp ?_ | refine Both.mk ?_ ?_ | refine xgon ?_ | intro _)))))
  all_goals try (
    rw [newE_no (l := l) (show ¬ ((1 ≤ m ∧ m ≤ 8) ∧ (0 ≤ lat ∧ lat ≤ 1099511627776)) by omega)]
    refine FinK.mk ⟨[0], _, _, .inl ⟨by decide, rfl, rfl⟩, ?_⟩
    (repeat' first | refine And.intro ?_ ?_ | exact xeC | fail)
    done)
  · rw [newE_long (l := l) (show (1 ≤ m ∧ m ≤ 8) ∧ (0 ≤ lat ∧ lat ≤ 1099511627776) by omega) (by omega)]
    refine FinK.mk ⟨[0], _, _, .inl ⟨by decide, rfl, rfl⟩, ?_⟩
    (repeat' first | refine And.intro ?_ ?_ | exact xeC | fail)
  have hml : (1 ≤ m ∧ m ≤ 8) ∧ (0 ≤ lat ∧ lat ≤ 1099511627776) := by omega
  refine LoopK.mk' {p : Nat × Nat // p.1 ≤ l.length ∧ ∀ j, j < p.1 → okF m (l.getD j default)}
    (fun ⟨(i, c'), _⟩ => ⟨[(0, .c (.i .i64 m)), (1, .c (.i .i64 lat)), (2, .c (.sl 0 0 6 0 l.length c)), (8, .c (.p 1 0 0)), (9, .c (.i .i64 (i : Nat)))],
      [.one (fltR w l c), .one (.cells true [.i .i64 m, .i .i64 lat, .sl 2 0 6 0 (l.take i).length c', .sl 3 0 6 0 0 0, .i .i64 0, .i .i64 0]), .one (fltR true (l.take i) c'), .one (arvR true [] 0)]⟩) (fun k => l.length - k.1.1)
    ⟨⟨(0, 0), Nat.zero_le _, by intro j h; omega⟩, [0, 1, 98, 99], ?_⟩ ?_
  · (repeat' first | refine And.intro ?_ ?_ | exact xeC | fail)
    all_goals (intro i hi; exact absurd hi (Nat.not_lt_zero i))
  rintro ⟨⟨i, c'⟩, hi, hok⟩
  simp only at hi hok
  have hlt0 : (l.take i).length = i := by rw [List.length_take]; omega
  repeat' (first | (fail_if_success (with_reducible refine xstp ?_)); first | ((with_reducible refine And.intro (fun (hb : _ = true) => ?_) (fun (hb : _ = false) => ?_)) <;> replace hb := xnC hb <;> (try first | exact xfC | exact bff hb (by assumption) | exact bff (by assumption) hb)) | (with_reducible refine Both.mk ?_ ?_) | ((with_reducible refine And.intro ?_ ?_); focus exact xoC) | ((with_reducible refine Or.inl ⟨?_, ?_, ?_⟩); (focus rfl); focus exact xaC) | ((with_reducible refine xwB ?_ ?_); focus exact xaC) | ((with_reducible refine xwC ?_ ?_); focus exact xaC) | ((with_reducible refine xwD ?_ ?_); focus exact xaC) | ((with_reducible refine xwE ?_ ?_); focus exact xaC) | (with_reducible intro hc; (try simp only [capsP, and_true] at hc); (try exact xfC)) | ((fail_if_success (with_reducible first | refine xgon ?_ | intro _)); (conv => whnf); (fail_if_success (fail_if_success (with_reducible first | refine xstp ?_ | refine Both.mk ?_ ?_ | refine xgon ?_ | intro _)))))
  · have hlt : i < l.length := by omega
    refine xcal (σ := []) (nl := []) (cCheckR m (l.getD (0 + ((i : Nat) : Int).toNat) default)) ?_
    rw [Nat.zero_add, Int.toNat_natCast]
    rintro v h' ⟨rfl, rfl⟩ hcaps
    refine rH14aB0 ?_
    repeat' (first | (fail_if_success (with_reducible refine xstp ?_)); first | ((with_reducible refine And.intro (fun (hb : _ = true) => ?_) (fun (hb : _ = false) => ?_)) <;> replace hb := xnC hb <;> (try first | exact xfC | exact bff hb (by assumption) | exact bff (by assumption) hb)) | (with_reducible refine Both.mk ?_ ?_) | ((with_reducible refine And.intro ?_ ?_); focus exact xoC) | ((with_reducible refine Or.inl ⟨?_, ?_, ?_⟩); (focus rfl); focus exact xaC) | ((with_reducible refine xwB ?_ ?_); focus exact xaC) | ((with_reducible refine xwC ?_ ?_); focus exact xaC) | ((with_reducible refine xwD ?_ ?_); focus exact xaC) | ((with_reducible refine xwE ?_ ?_); focus exact xaC) | (with_reducible intro hc; (try simp only [capsP, and_true] at hc); (try exact xfC)) | ((fail_if_success (with_reducible first | refine xgon ?_ | intro _)); (conv => whnf); (fail_if_success (fail_if_success (with_reducible first | refine xstp ?_ | refine Both.mk ?_ ?_ | refine xgon ?_ | intro _)))))
    · obtain ⟨k1, k2⟩ := chk_ne hb
      rw [k2, newE_bad hml (by omega) hlt k1]
      refine FinK.mk ⟨[0], _, _, .inl ⟨by decide, rfl, rfl⟩, ?_⟩
      (repeat' first | refine And.intro ?_ ?_ | exact xeC | fail)
    · rename_i c2
      refine ⟨⟨(i + 1, c2), by simp only; omega, fun j hj => ?_⟩, [0, 1, 5, 3], by simp only; omega, ?_⟩
      · simp only at hj
        rcases (by omega : j < i ∨ j = i) with h | rfl
        · exact hok j h
        · exact chk_eq hb
      have hts := take_snocG l hlt
      simp only [hts]
      (repeat' first | refine And.intro ?_ ?_ | exact xeC | fail)
      all_goals first | omega | (simp only [List.length_append, List.length_singleton]; done) | (rw [List.length_append, List.length_singleton]; omega) | (intro i hi; (first | refine app_rowG _ _ _ _ ?_ i hi | refine app_row _ _ _ ?_ i hi); first | rfl | (simp only [Int.toNat_natCast, Nat.zero_add]; rfl))
  · obtain rfl : i = l.length := by omega
    rw [newE_ok hml (l := l) (by omega) (fun j hj => hok j (by omega))]
    refine FinK.mk ⟨[0, 1, 2, 3], _, _, .inr ⟨rfl, c', rfl, rfl⟩, ?_⟩
    rw [List.take_length]
    (repeat' first | refine And.intro ?_ ?_ | exact xeC | fail)
def ltA (x y : Arv) : Prop := x.at_ < y.at_ ∨ (x.at_ = y.at_ ∧ (x.no < y.no ∨ (x.no = y.no ∧ x.cp < y.cp)))
instance (x y : Arv) : Decidable (ltA x y) := by unfold ltA; infer_instance
def posN (P : List Arv) (a : Arv) : Nat → Nat
  | 0 => 0
  | i + 1 => if ltA (P.getD i default) a then i + 1 else posN P a i
def posA (P : List Arv) (a : Arv) : Nat := posN P a P.length
def insI (P : List Arv) (a : Arv) (i : Nat) : List Arv := P.take i ++ a :: P.drop i
def insA (P : List Arv) (a : Arv) : List Arv := insI P a (posA P a)
theorem insI_len {P : List Arv} {a : Arv} {i : Nat} (h : i ≤ P.length) : (insI P a i).length = P.length + 1 := by
  unfold insI; simp; omega
theorem insI_at {P : List Arv} {a : Arv} {i j : Nat} (h : i ≤ P.length) : (insI P a i).getD j default = if j < i then P.getD j default else if j = i then a else P.getD (j - 1) default := by
  unfold insI
  have hl : (P.take i).length = i := by rw [List.length_take]; omega
  split
  · rename_i hj
    simp [List.getD, List.getElem?_append_left (show j < (P.take i).length by omega), List.getElem?_take_of_lt hj]
  · split
    · rename_i h1 h2
      subst h2
      simp [List.getD, List.getElem?_append_right (show (P.take j).length ≤ j by omega), hl]
    · rename_i h1 h2
      obtain ⟨q, rfl⟩ : ∃ q, j = i + 1 + q := ⟨j - i - 1, by omega⟩
      have e1 : i + 1 + q - i = q + 1 := by omega
      have e2 : i + 1 + q - 1 = i + q := by omega
      simp [List.getD, List.getElem?_append_right (show (P.take i).length ≤ i + 1 + q by omega), hl, e1, e2]
theorem posN_le (P : List Arv) (a : Arv) : ∀ i, posN P a i ≤ i
  | 0 => Nat.le_refl _
  | i + 1 => by
    rw [posN]
    split
    · omega
    · have := posN_le P a i; omega
theorem insA_len (P : List Arv) (a : Arv) : (insA P a).length = P.length + 1 := insI_len (posN_le P a P.length)
set_option maxRecDepth 10000 in
set_option maxHeartbeats 4000000 in
theorem cAddR (N : Nt) (c k : Nat) (a : Arv) (hP : N.P.length ≤ 100000) : Ctr Try.prog 36 [.c (.p 0 0 0), .a (encR a)] [.one (ntC N c 2 k), .one .no, .one (arvR true N.P k)]
    fun v h => ∃ k', v = .t [] ∧ h = [.one (ntC { N with P := insA N.P a } c 3 k'), .one .no, .one .no, .one (arvR true (insA N.P a) k')] := by
  have hend : insI N.P a N.P.length = N.P ++ [a] := by simp [insI]
  refine Ctr.mk' tbv mixed Try.func36 rfl rfl rfl (fun _ _ => by kernel_rfl) (by kernel_rfl) (by rfl) (by rfl) (by (repeat' first | refine And.intro ?_ ?_ | exact xeC | fail)) ?_
  repeat' (first | (fail_if_success (with_reducible refine xstp ?_)); first | ((with_reducible refine And.intro (fun (hb : _ = true) => ?_) (fun (hb : _ = false) => ?_)) <;> replace hb := xnC hb <;> (try first | exact xfC | exact bff hb (by assumption) | exact bff (by assumption) hb)) | (with_reducible refine Both.mk ?_ ?_) | ((with_reducible refine And.intro ?_ ?_); focus exact xoC) | ((with_reducible refine Or.inl ⟨?_, ?_, ?_⟩); (focus rfl); focus exact xaC) | ((with_reducible refine xwB ?_ ?_); focus exact xaC) | ((with_reducible refine xwC ?_ ?_); focus exact xaC) | ((with_reducible refine xwD ?_ ?_); focus exact xaC) | ((with_reducible refine xwE ?_ ?_); focus exact xaC) | (with_reducible intro hc; (try simp only [capsP, and_true] at hc); (try exact xfC)) | ((fail_if_success (with_reducible first | refine xgon ?_ | intro _)); (conv => whnf); (fail_if_success (fail_if_success (with_reducible first | refine xstp ?_ | refine Both.mk ?_ ?_ | refine xgon ?_ | intro _)))))
  rename_i k2
  refine LoopK.mk' {i : Nat // i ≤ N.P.length ∧ posN N.P a i = posA N.P a}
    (fun ⟨i, _⟩ => ⟨[(0, .c (.p 0 0 0)), (4, .c (.i .i64 (i : Nat)))],
      [.one (ntC { N with P := insI N.P a i } c 3 k2), .one .no, .one .no, .one (arvR true (insI N.P a i) k2)]⟩) (fun k => k.1)
    ⟨⟨N.P.length, Nat.le_refl _, rfl⟩, [0, 1, 2, 5], ?_⟩ ?_
  · (repeat' first | refine And.intro ?_ ?_ | exact xeC | fail)
    all_goals first
      | omega
      | (rw [hend, List.length_append]; simp; done)
      | (rw [hend]; simp; done)
      | (intro j hj
         rw [hend] at hj ⊢
         exact app_rowG encR N.P a _ rfl j hj)
      | skip
  rintro ⟨i, hi, hpos⟩
  have hlen := insI_len (a := a) hi
  have hdone : posA N.P a = i → ∀ K : Prop, (insA N.P a = insI N.P a i → K) → K := fun h K hK => hK (by unfold insA; rw [h])
  cases i with
  | zero =>
    have he : posA N.P a = 0 := hpos.symm
    refine hdone he _ fun he => ?_
    rw [he]
    repeat' (first | (fail_if_success (with_reducible refine xstp ?_)); first | ((with_reducible refine And.intro (fun (hb : _ = true) => ?_) (fun (hb : _ = false) => ?_)) <;> replace hb := xnC hb <;> (try first | exact xfC | exact bff hb (by assumption) | exact bff (by assumption) hb)) | (with_reducible refine Both.mk ?_ ?_) | ((with_reducible refine And.intro ?_ ?_); focus exact xoC) | ((with_reducible refine Or.inl ⟨?_, ?_, ?_⟩); (focus rfl); focus exact xaC) | ((with_reducible refine xwB ?_ ?_); focus exact xaC) | ((with_reducible refine xwC ?_ ?_); focus exact xaC) | ((with_reducible refine xwD ?_ ?_); focus exact xaC) | ((with_reducible refine xwE ?_ ?_); focus exact xaC) | (with_reducible intro hc; (try simp only [capsP, and_true] at hc); (try exact xfC)) | ((fail_if_success (with_reducible first | refine xgon ?_ | intro _)); (conv => whnf); (fail_if_success (fail_if_success (with_reducible first | refine xstp ?_ | refine Both.mk ?_ ?_ | refine xgon ?_ | intro _)))))
    refine FinK.mk ⟨[0, 1, 2, 3], _, _, ⟨k2, rfl, rfl⟩, ?_⟩
    (repeat' first | refine And.intro ?_ ?_ | exact xeC | fail)
  | succ i =>
    have g1 := insI_at (a := a) (j := i) hi
    have g2 := insI_at (a := a) (j := i + 1) hi
    rw [if_pos (Nat.lt_succ_self i)] at g1
    rw [if_neg (Nat.lt_irrefl _), if_pos rfl] at g2
    have e1 : (((i + 1 : Nat) : Int) - 1).toNat = i := by omega
    have g1' : (insI N.P a (i + 1)).getD (((i + 1 : Nat) : Int) - 1).toNat default = N.P.getD i default := by rw [e1]; exact g1
    have hlts : ltA ((insI N.P a (i + 1)).getD (((i + 1 : Nat) : Int) - 1).toNat default) ((insI N.P a (i + 1)).getD (i + 1) default) → posA N.P a = i + 1 := fun h => by
      rw [g1', g2] at h
      rw [← hpos, posN, if_pos h]
    have hnlt : ¬ ltA ((insI N.P a (i + 1)).getD (((i + 1 : Nat) : Int) - 1).toNat default) ((insI N.P a (i + 1)).getD (i + 1) default) → posN N.P a i = posA N.P a := fun h => by
      rw [g1', g2] at h
      rw [← hpos, posN, if_neg h]
    unfold ltA at hlts hnlt
    repeat' (first | (fail_if_success (with_reducible refine xstp ?_)); first | ((with_reducible refine And.intro (fun (hb : _ = true) => ?_) (fun (hb : _ = false) => ?_)) <;> replace hb := xnC hb <;> (try first | exact xfC | exact bff hb (by assumption) | exact bff (by assumption) hb)) | (with_reducible refine Both.mk ?_ ?_) | ((with_reducible refine And.intro ?_ ?_); focus exact xoC) | ((with_reducible refine Or.inl ⟨?_, ?_, ?_⟩); (focus rfl); focus exact xaC) | ((with_reducible refine xwB ?_ ?_); focus exact xaC) | ((with_reducible refine xwC ?_ ?_); focus exact xaC) | ((with_reducible refine xwD ?_ ?_); focus exact xaC) | ((with_reducible refine xwE ?_ ?_); focus exact xaC) | (with_reducible intro hc; (try simp only [capsP, and_true] at hc); (try exact xfC)) | ((fail_if_success (with_reducible first | refine xgon ?_ | intro _)); (conv => whnf); (fail_if_success (fail_if_success (with_reducible first | refine xstp ?_ | refine Both.mk ?_ ?_ | refine xgon ?_ | intro _)))))
    all_goals try (
      refine hdone (hlts (by omega)) _ fun he => ?_
      rw [he]
      refine FinK.mk ⟨[0, 1, 2, 3], _, _, ⟨k2, rfl, rfl⟩, ?_⟩
      (repeat' first | refine And.intro ?_ ?_ | exact xeC | fail)
      done)
    all_goals (
      show flatK false _ (lay (if _ then _ else _) _ _ _)
      rw [if_neg (by omega)]
      repeat' (first | (fail_if_success (with_reducible refine xstp ?_)); first | ((with_reducible refine And.intro (fun (hb : _ = true) => ?_) (fun (hb : _ = false) => ?_)) <;> replace hb := xnC hb <;> (try first | exact xfC | exact bff hb (by assumption) | exact bff (by assumption) hb)) | (with_reducible refine Both.mk ?_ ?_) | ((with_reducible refine And.intro ?_ ?_); focus exact xoC) | ((with_reducible refine Or.inl ⟨?_, ?_, ?_⟩); (focus rfl); focus exact xaC) | ((with_reducible refine xwB ?_ ?_); focus exact xaC) | ((with_reducible refine xwC ?_ ?_); focus exact xaC) | ((with_reducible refine xwD ?_ ?_); focus exact xaC) | ((with_reducible refine xwE ?_ ?_); focus exact xaC) | (with_reducible intro hc; (try simp only [capsP, and_true] at hc); (try exact xfC)) | ((fail_if_success (with_reducible first | refine xgon ?_ | intro _)); (conv => whnf); (fail_if_success (fail_if_success (with_reducible first | refine xstp ?_ | refine Both.mk ?_ ?_ | refine xgon ?_ | intro _)))))
      skip)
    all_goals (
      refine ⟨⟨i, by omega, hnlt (by omega)⟩, [0, 1, 2, 3], by simp only; omega, ?_⟩
      have hl2 := insI_len (a := a) (show i ≤ N.P.length by omega)
      (repeat' first | refine And.intro ?_ ?_ | exact xeC | fail)
      all_goals first
        | omega
        | exact hlen.trans hl2.symm
        | exact hl2.trans hlen.symm
        | (intro j hj
           simp only [rowOf, Nat.zero_add, e1, Int.toNat_natCast]
           have r0 := insI_at (a := a) (j := j) (show i ≤ N.P.length by omega)
           have r1 := insI_at (a := a) (j := j) hi
           by_cases h1 : j = i + 1
           · subst h1
             rw [if_neg (by omega), if_neg (by omega), Nat.add_sub_cancel] at r0
             rw [r0]
             simp only [↓reduceIte, if_neg (show ¬ i + 1 = i by omega), g1, encR]
           · by_cases h2 : j = i
             · subst h2
               rw [if_neg (by omega), if_pos rfl] at r0
               rw [r0]
               simp only [↓reduceIte, if_neg h1, g2, encR]
             · simp only [if_neg h1, if_neg h2]
               rw [r0, r1]
               by_cases h3 : j < i
               · rw [if_pos h3, if_pos (by omega)]
               · rw [if_neg h3, if_neg (by omega), if_neg h1, if_neg h2])
        | skip)
end Go.Proofs.Ytnjakmpddghhjaa

namespace Go.Proofs.Ytnjakmpddghhjaa
open Go.X
set_option linter.unusedSimpArgs false
set_option linter.unusedVariables false
theorem filt_y {α : Type} {l : List α} {x : α} {p : α → Bool} (h : p x = true) : (l ++ [x]).filter p = l.filter p ++ [x] := by
  rw [List.filter_append, List.filter_cons_of_pos h]; rfl
theorem filt_n {α : Type} {l : List α} {x : α} {p : α → Bool} (h : p x = false) : (l ++ [x]).filter p = l.filter p := by
  rw [List.filter_append, List.filter_cons_of_neg (by rw [h]; decide)]; exact List.append_nil _
set_option maxRecDepth 10000 in
theorem cNextR (N : Nt) (c k : Nat) : Ctr Try.prog 24 [.c (.p 0 0 0)] (ntH N c k)
    fun v h => v = (if N.P.length = 0 then .t [.c (.i .i64 0), .c .ff] else .t [.c (.i .i64 (N.P.getD 0 default).at_), .c .tt]) ∧ h = ntH N c k := by
  refine Ctr.mk' tbv mixed Try.func24 rfl rfl rfl (fun _ _ => by kernel_rfl) (by kernel_rfl) (by rfl) (by rfl) (by (repeat' first | refine And.intro ?_ ?_ | exact xeC | fail)) ?_
  repeat' (first | (fail_if_success (with_reducible refine xstp ?_)); first | ((with_reducible refine And.intro (fun (hb : _ = true) => ?_) (fun (hb : _ = false) => ?_)) <;> replace hb := xnC hb <;> (try first | exact xfC | exact bff hb (by assumption) | exact bff (by assumption) hb)) | (with_reducible refine Both.mk ?_ ?_) | ((with_reducible refine And.intro ?_ ?_); focus exact xoC) | ((with_reducible refine Or.inl ⟨?_, ?_, ?_⟩); (focus rfl); focus exact xaC) | ((with_reducible refine xwB ?_ ?_); focus exact xaC) | ((with_reducible refine xwC ?_ ?_); focus exact xaC) | ((with_reducible refine xwD ?_ ?_); focus exact xaC) | ((with_reducible refine xwE ?_ ?_); focus exact xaC) | (with_reducible intro hc; (try simp only [capsP, and_true] at hc); (try exact xfC)) | ((fail_if_success (with_reducible first | refine xgon ?_ | intro _)); (conv => whnf); (fail_if_success (fail_if_success (with_reducible first | refine xstp ?_ | refine Both.mk ?_ ?_ | refine xgon ?_ | intro _)))))
  · rw [if_pos (by omega)]
    refine FinK.mk ⟨[0, 1, 2], _, _, ⟨rfl, rfl⟩, ?_⟩; (repeat' first | refine And.intro ?_ ?_ | exact xeC | fail)
  · rw [if_neg (by omega)]
    refine FinK.mk ⟨[0, 1, 2], _, _, ⟨rfl, rfl⟩, ?_⟩; (repeat' first | refine And.intro ?_ ?_ | exact xeC | fail)
def rcvP (u : Int) (P : List Arv) : List Arv := P.filter fun a => decide (a.at_ ≤ u)
def rcvQ (u : Int) (P : List Arv) : List Arv := P.filter fun a => !decide (a.at_ ≤ u)
set_option maxRecDepth 10000 in
set_option maxHeartbeats 4000000 in
theorem cRecvR (N : Nt) (c k : Nat) (u : Int) (hP : N.P.length ≤ 100000) : Ctr Try.prog 18 [.c (.p 0 0 0), .c (.i .i64 u)] (ntH N c k)
    fun v h => ∃ c1 c2, v = .c (.sl 3 0 6 0 (rcvP u N.P).length c1) ∧ h = [.one (ntC { N with P := rcvQ u N.P, last := max N.last u } c 4 c2), .one (fltR true N.F c), .one .no, .one (arvR true (rcvP u N.P) c1), .one (arvR true (rcvQ u N.P) c2)] := by
  have hA : N.last < u → max N.last u = u := fun h => by omega
  have hB : u ≤ N.last → max N.last u = N.last := fun h => by omega
  unfold rcvP rcvQ
  refine Ctr.mk' tbv mixed Try.func18 rfl rfl rfl (fun _ _ => by kernel_rfl) (by kernel_rfl) (by rfl) (by rfl) (by (repeat' first | refine And.intro ?_ ?_ | exact xeC | fail)) ?_
  repeat' (first | (fail_if_success (with_reducible refine xstp ?_)); first | ((with_reducible refine And.intro (fun (hb : _ = true) => ?_) (fun (hb : _ = false) => ?_)) <;> replace hb := xnC hb <;> (try first | exact xfC | exact bff hb (by assumption) | exact bff (by assumption) hb)) | (with_reducible refine Both.mk ?_ ?_) | ((with_reducible refine And.intro ?_ ?_); focus exact xoC) | ((with_reducible refine Or.inl ⟨?_, ?_, ?_⟩); (focus rfl); focus exact xaC) | ((with_reducible refine xwB ?_ ?_); focus exact xaC) | ((with_reducible refine xwC ?_ ?_); focus exact xaC) | ((with_reducible refine xwD ?_ ?_); focus exact xaC) | ((with_reducible refine xwE ?_ ?_); focus exact xaC) | (with_reducible intro hc; (try simp only [capsP, and_true] at hc); (try exact xfC)) | ((fail_if_success (with_reducible first | refine xgon ?_ | intro _)); (conv => whnf); (fail_if_success (fail_if_success (with_reducible first | refine xstp ?_ | refine Both.mk ?_ ?_ | refine xgon ?_ | intro _)))))
  · rw [hA (by assumption)]
    refine LoopK.mk' {p : Nat × Nat × Nat // p.1 ≤ N.P.length}
      (fun ⟨(i, c1, c2), _⟩ => ⟨[(0, .c (.p 0 0 0)), (1, .c (.i .i64 u)), (5, .c (.sl 3 0 6 0 ((N.P.take i).filter fun a => decide (a.at_ ≤ u)).length c1)), (6, .c (.sl 4 0 6 0 ((N.P.take i).filter fun a => !decide (a.at_ ≤ u)).length c2)), (7, .c (.i .i64 (i : Nat)))],
        [.one (ntC { N with last := u } c 2 k), .one (fltR true N.F c), .one (arvR true N.P k), .one (arvR true ((N.P.take i).filter fun a => decide (a.at_ ≤ u)) c1), .one (arvR true ((N.P.take i).filter fun a => !decide (a.at_ ≤ u)) c2)]⟩) (fun q => N.P.length - q.1.1)
      ⟨⟨(0, 0, 0), Nat.zero_le _⟩, [0, 1, 2, 98, 99], ?_⟩ ?_
    · (repeat' first | refine And.intro ?_ ?_ | exact xeC | fail)
      all_goals (intro i hi; exact absurd hi (Nat.not_lt_zero i))
    rintro ⟨⟨i, c1, c2⟩, hi⟩
    simp only at hi
    have hf1 := List.length_filter_le (fun a : Arv => decide (a.at_ ≤ u)) (N.P.take i)
    have hf2 := List.length_filter_le (fun a : Arv => !decide (a.at_ ≤ u)) (N.P.take i)
    have htl : (N.P.take i).length = i := by rw [List.length_take]; omega
    repeat' (first | (fail_if_success (with_reducible refine xstp ?_)); first | ((with_reducible refine And.intro (fun (hb : _ = true) => ?_) (fun (hb : _ = false) => ?_)) <;> replace hb := xnC hb <;> (try first | exact xfC | exact bff hb (by assumption) | exact bff (by assumption) hb)) | (with_reducible refine Both.mk ?_ ?_) | ((with_reducible refine And.intro ?_ ?_); focus exact xoC) | ((with_reducible refine Or.inl ⟨?_, ?_, ?_⟩); (focus rfl); focus exact xaC) | ((with_reducible refine xwB ?_ ?_); focus exact xaC) | ((with_reducible refine xwC ?_ ?_); focus exact xaC) | ((with_reducible refine xwD ?_ ?_); focus exact xaC) | ((with_reducible refine xwE ?_ ?_); focus exact xaC) | (with_reducible intro hc; (try simp only [capsP, and_true] at hc); (try exact xfC)) | ((fail_if_success (with_reducible first | refine xgon ?_ | intro _)); (conv => whnf); (fail_if_success (fail_if_success (with_reducible first | refine xstp ?_ | refine Both.mk ?_ ?_ | refine xgon ?_ | intro _)))))
    · have hlt : i < N.P.length := by omega
      have hts := take_snocG N.P hlt
      rename_i c3
      refine ⟨⟨(i + 1, c3, c2), by simp only; omega⟩, [0, 1, 2, 6, 4], by simp only; omega, ?_⟩
      have q1 : (N.P.take (i + 1)).filter (fun a => decide (a.at_ ≤ u)) = (N.P.take i).filter (fun a => decide (a.at_ ≤ u)) ++ [N.P.getD i default] := by
        rw [hts]; exact filt_y (decide_eq_true hb)
      have q2 : (N.P.take (i + 1)).filter (fun a => !decide (a.at_ ≤ u)) = (N.P.take i).filter (fun a => !decide (a.at_ ≤ u)) := by
        rw [hts]; exact filt_n (by rw [decide_eq_true hb]; rfl)
      simp only [q1, q2]
      (repeat' first | refine And.intro ?_ ?_ | exact xeC | fail)
      all_goals first | omega | (simp only [List.length_append, List.length_singleton]; done) | (rw [List.length_append, List.length_singleton]; omega) | (intro i hi; (first | refine app_rowG _ _ _ _ ?_ i hi | refine app_row _ _ _ ?_ i hi); first | rfl | (simp only [Int.toNat_natCast, Nat.zero_add]; rfl))
    · have hlt : i < N.P.length := by omega
      have hts := take_snocG N.P hlt
      have hb2 : ¬ (N.P.getD i default).at_ ≤ u := by omega
      rename_i c3
      refine ⟨⟨(i + 1, c1, c3), by simp only; omega⟩, [0, 1, 2, 3, 6], by simp only; omega, ?_⟩
      have q1 : (N.P.take (i + 1)).filter (fun a => decide (a.at_ ≤ u)) = (N.P.take i).filter (fun a => decide (a.at_ ≤ u)) := by
        rw [hts]; exact filt_n (decide_eq_false hb2)
      have q2 : (N.P.take (i + 1)).filter (fun a => !decide (a.at_ ≤ u)) = (N.P.take i).filter (fun a => !decide (a.at_ ≤ u)) ++ [N.P.getD i default] := by
        rw [hts]; exact filt_y (by rw [decide_eq_false hb2]; rfl)
      simp only [q1, q2]
      (repeat' first | refine And.intro ?_ ?_ | exact xeC | fail)
      all_goals first | omega | (simp only [List.length_append, List.length_singleton]; done) | (rw [List.length_append, List.length_singleton]; omega) | (intro i hi; (first | refine app_rowG _ _ _ _ ?_ i hi | refine app_row _ _ _ ?_ i hi); first | rfl | (simp only [Int.toNat_natCast, Nat.zero_add]; rfl))
    · obtain rfl : i = N.P.length := by omega
      refine FinK.mk ⟨[0, 1, 2, 3, 4], _, _, ⟨c1, c2, rfl, rfl⟩, ?_⟩
      rw [List.take_length]
      (repeat' first | refine And.intro ?_ ?_ | exact xeC | fail)
      all_goals skip
  · rw [hB (by assumption)]
    refine LoopK.mk' {p : Nat × Nat × Nat // p.1 ≤ N.P.length}
      (fun ⟨(i, c1, c2), _⟩ => ⟨[(0, .c (.p 0 0 0)), (1, .c (.i .i64 u)), (5, .c (.sl 3 0 6 0 ((N.P.take i).filter fun a => decide (a.at_ ≤ u)).length c1)), (6, .c (.sl 4 0 6 0 ((N.P.take i).filter fun a => !decide (a.at_ ≤ u)).length c2)), (7, .c (.i .i64 (i : Nat)))],
        [.one (ntC { N with last := N.last } c 2 k), .one (fltR true N.F c), .one (arvR true N.P k), .one (arvR true ((N.P.take i).filter fun a => decide (a.at_ ≤ u)) c1), .one (arvR true ((N.P.take i).filter fun a => !decide (a.at_ ≤ u)) c2)]⟩) (fun q => N.P.length - q.1.1)
      ⟨⟨(0, 0, 0), Nat.zero_le _⟩, [0, 1, 2, 98, 99], ?_⟩ ?_
    · (repeat' first | refine And.intro ?_ ?_ | exact xeC | fail)
      all_goals (intro i hi; exact absurd hi (Nat.not_lt_zero i))
    rintro ⟨⟨i, c1, c2⟩, hi⟩
    simp only at hi
    have hf1 := List.length_filter_le (fun a : Arv => decide (a.at_ ≤ u)) (N.P.take i)
    have hf2 := List.length_filter_le (fun a : Arv => !decide (a.at_ ≤ u)) (N.P.take i)
    have htl : (N.P.take i).length = i := by rw [List.length_take]; omega
    repeat' (first | (fail_if_success (with_reducible refine xstp ?_)); first | ((with_reducible refine And.intro (fun (hb : _ = true) => ?_) (fun (hb : _ = false) => ?_)) <;> replace hb := xnC hb <;> (try first | exact xfC | exact bff hb (by assumption) | exact bff (by assumption) hb)) | (with_reducible refine Both.mk ?_ ?_) | ((with_reducible refine And.intro ?_ ?_); focus exact xoC) | ((with_reducible refine Or.inl ⟨?_, ?_, ?_⟩); (focus rfl); focus exact xaC) | ((with_reducible refine xwB ?_ ?_); focus exact xaC) | ((with_reducible refine xwC ?_ ?_); focus exact xaC) | ((with_reducible refine xwD ?_ ?_); focus exact xaC) | ((with_reducible refine xwE ?_ ?_); focus exact xaC) | (with_reducible intro hc; (try simp only [capsP, and_true] at hc); (try exact xfC)) | ((fail_if_success (with_reducible first | refine xgon ?_ | intro _)); (conv => whnf); (fail_if_success (fail_if_success (with_reducible first | refine xstp ?_ | refine Both.mk ?_ ?_ | refine xgon ?_ | intro _)))))
    · have hlt : i < N.P.length := by omega
      have hts := take_snocG N.P hlt
      rename_i c3
      refine ⟨⟨(i + 1, c3, c2), by simp only; omega⟩, [0, 1, 2, 6, 4], by simp only; omega, ?_⟩
      have q1 : (N.P.take (i + 1)).filter (fun a => decide (a.at_ ≤ u)) = (N.P.take i).filter (fun a => decide (a.at_ ≤ u)) ++ [N.P.getD i default] := by
        rw [hts]; exact filt_y (decide_eq_true hb)
      have q2 : (N.P.take (i + 1)).filter (fun a => !decide (a.at_ ≤ u)) = (N.P.take i).filter (fun a => !decide (a.at_ ≤ u)) := by
        rw [hts]; exact filt_n (by rw [decide_eq_true hb]; rfl)
      simp only [q1, q2]
      (repeat' first | refine And.intro ?_ ?_ | exact xeC | fail)
      all_goals first | omega | (simp only [List.length_append, List.length_singleton]; done) | (rw [List.length_append, List.length_singleton]; omega) | (intro i hi; (first | refine app_rowG _ _ _ _ ?_ i hi | refine app_row _ _ _ ?_ i hi); first | rfl | (simp only [Int.toNat_natCast, Nat.zero_add]; rfl))
    · have hlt : i < N.P.length := by omega
      have hts := take_snocG N.P hlt
      have hb2 : ¬ (N.P.getD i default).at_ ≤ u := by omega
      rename_i c3
      refine ⟨⟨(i + 1, c1, c3), by simp only; omega⟩, [0, 1, 2, 3, 6], by simp only; omega, ?_⟩
      have q1 : (N.P.take (i + 1)).filter (fun a => decide (a.at_ ≤ u)) = (N.P.take i).filter (fun a => decide (a.at_ ≤ u)) := by
        rw [hts]; exact filt_n (decide_eq_false hb2)
      have q2 : (N.P.take (i + 1)).filter (fun a => !decide (a.at_ ≤ u)) = (N.P.take i).filter (fun a => !decide (a.at_ ≤ u)) ++ [N.P.getD i default] := by
        rw [hts]; exact filt_y (by rw [decide_eq_false hb2]; rfl)
      simp only [q1, q2]
      (repeat' first | refine And.intro ?_ ?_ | exact xeC | fail)
      all_goals first | omega | (simp only [List.length_append, List.length_singleton]; done) | (rw [List.length_append, List.length_singleton]; omega) | (intro i hi; (first | refine app_rowG _ _ _ _ ?_ i hi | refine app_row _ _ _ ?_ i hi); first | rfl | (simp only [Int.toNat_natCast, Nat.zero_add]; rfl))
    · obtain rfl : i = N.P.length := by omega
      refine FinK.mk ⟨[0, 1, 2, 3, 4], _, _, ⟨c1, c2, rfl, rfl⟩, ?_⟩
      rw [List.take_length]
      (repeat' first | refine And.intro ?_ ?_ | exact xeC | fail)
      all_goals skip
def clrP (q : Int) (P : List Arv) : List Arv := P.filter fun a => decide (a.fr ≠ q ∧ a.to ≠ q)
set_option maxRecDepth 10000 in
set_option maxHeartbeats 4000000 in
theorem cClearR (N : Nt) (c k : Nat) (u : Int) (hP : N.P.length ≤ 100000) : Ctr Try.prog 28 [.c (.p 0 0 0), .c (.i .i64 u)] (ntH N c k)
    fun v h => ∃ c1, v = .t [] ∧ h = [.one (ntC { N with P := clrP u N.P } c 3 c1), .one (fltR true N.F c), .one .no, .one (arvR true (clrP u N.P) c1)] := by
  unfold clrP
  refine Ctr.mk' tbv mixed Try.func28 rfl rfl rfl (fun _ _ => by kernel_rfl) (by kernel_rfl) (by rfl) (by rfl) (by (repeat' first | refine And.intro ?_ ?_ | exact xeC | fail)) ?_
  repeat' (first | (fail_if_success (with_reducible refine xstp ?_)); first | ((with_reducible refine And.intro (fun (hb : _ = true) => ?_) (fun (hb : _ = false) => ?_)) <;> replace hb := xnC hb <;> (try first | exact xfC | exact bff hb (by assumption) | exact bff (by assumption) hb)) | (with_reducible refine Both.mk ?_ ?_) | ((with_reducible refine And.intro ?_ ?_); focus exact xoC) | ((with_reducible refine Or.inl ⟨?_, ?_, ?_⟩); (focus rfl); focus exact xaC) | ((with_reducible refine xwB ?_ ?_); focus exact xaC) | ((with_reducible refine xwC ?_ ?_); focus exact xaC) | ((with_reducible refine xwD ?_ ?_); focus exact xaC) | ((with_reducible refine xwE ?_ ?_); focus exact xaC) | (with_reducible intro hc; (try simp only [capsP, and_true] at hc); (try exact xfC)) | ((fail_if_success (with_reducible first | refine xgon ?_ | intro _)); (conv => whnf); (fail_if_success (fail_if_success (with_reducible first | refine xstp ?_ | refine Both.mk ?_ ?_ | refine xgon ?_ | intro _)))))
  refine LoopK.mk' {p : Nat × Nat // p.1 ≤ N.P.length}
    (fun ⟨(i, c1), _⟩ => ⟨[(0, .c (.p 0 0 0)), (1, .c (.i .i64 u)), (4, .c (.sl 3 0 6 0 ((N.P.take i).filter fun a => decide (a.fr ≠ u ∧ a.to ≠ u)).length c1)), (5, .c (.i .i64 (i : Nat)))],
      [.one (ntC N c 2 k), .one (fltR true N.F c), .one (arvR true N.P k), .one (arvR true ((N.P.take i).filter fun a => decide (a.fr ≠ u ∧ a.to ≠ u)) c1)]⟩) (fun q => N.P.length - q.1.1)
    ⟨⟨(0, 0), Nat.zero_le _⟩, [0, 1, 2, 99], ?_⟩ ?_
  · (repeat' first | refine And.intro ?_ ?_ | exact xeC | fail)
    all_goals (intro i hi; exact absurd hi (Nat.not_lt_zero i))
  rintro ⟨⟨i, c1⟩, hi⟩
  simp only at hi
  have hf1 := List.length_filter_le (fun a : Arv => decide (a.fr ≠ u ∧ a.to ≠ u)) (N.P.take i)
  have htl : (N.P.take i).length = i := by rw [List.length_take]; omega
  repeat' (first | (fail_if_success (with_reducible refine xstp ?_)); first | ((with_reducible refine And.intro (fun (hb : _ = true) => ?_) (fun (hb : _ = false) => ?_)) <;> replace hb := xnC hb <;> (try first | exact xfC | exact bff hb (by assumption) | exact bff (by assumption) hb)) | (with_reducible refine Both.mk ?_ ?_) | ((with_reducible refine And.intro ?_ ?_); focus exact xoC) | ((with_reducible refine Or.inl ⟨?_, ?_, ?_⟩); (focus rfl); focus exact xaC) | ((with_reducible refine xwB ?_ ?_); focus exact xaC) | ((with_reducible refine xwC ?_ ?_); focus exact xaC) | ((with_reducible refine xwD ?_ ?_); focus exact xaC) | ((with_reducible refine xwE ?_ ?_); focus exact xaC) | (with_reducible intro hc; (try simp only [capsP, and_true] at hc); (try exact xfC)) | ((fail_if_success (with_reducible first | refine xgon ?_ | intro _)); (conv => whnf); (fail_if_success (fail_if_success (with_reducible first | refine xstp ?_ | refine Both.mk ?_ ?_ | refine xgon ?_ | intro _)))))
  · have hlt : i < N.P.length := by omega
    have hts := take_snocG N.P hlt
    rename_i c3
    refine ⟨⟨(i + 1, c3), by simp only; omega⟩, [0, 1, 2, 5], by simp only; omega, ?_⟩
    have q1 : (N.P.take (i + 1)).filter (fun a => decide (a.fr ≠ u ∧ a.to ≠ u)) = (N.P.take i).filter (fun a => decide (a.fr ≠ u ∧ a.to ≠ u)) ++ [N.P.getD i default] := by
      rw [hts]; exact filt_y (decide_eq_true ⟨by assumption, by assumption⟩)
    simp only [q1]
    (repeat' first | refine And.intro ?_ ?_ | exact xeC | fail)
    all_goals first | omega | (simp only [List.length_append, List.length_singleton]; done) | (rw [List.length_append, List.length_singleton]; omega) | (intro i hi; (first | refine app_rowG _ _ _ _ ?_ i hi | refine app_row _ _ _ ?_ i hi); first | rfl | (simp only [Int.toNat_natCast, Nat.zero_add]; rfl))
  all_goals try (
    have hlt : i < N.P.length := by omega
    have hts := take_snocG N.P hlt
    have q1 : (N.P.take (i + 1)).filter (fun a => decide (a.fr ≠ u ∧ a.to ≠ u)) = (N.P.take i).filter (fun a => decide (a.fr ≠ u ∧ a.to ≠ u)) := by
      rw [hts]; exact filt_n (decide_eq_false (fun h => by first | exact h.2 hb | exact h.1 hb))
    refine ⟨⟨(i + 1, c1), by simp only; omega⟩, [0, 1, 2, 3], by simp only; omega, ?_⟩
    simp only [q1]
    (repeat' first | refine And.intro ?_ ?_ | exact xeC | fail)
    done)
  · obtain rfl : i = N.P.length := by omega
    refine FinK.mk ⟨[0, 1, 2, 3], _, _, ⟨c1, rfl, rfl⟩, ?_⟩
    rw [List.take_length]
    (repeat' first | refine And.intro ?_ ?_ | exact xeC | fail)
def isCut (F : List Flt) (t a b : Int) : Bool := F.any fun f => decide (f.kd = 4 ∧ apl f t a b)
def okNd (m a : Int) : Prop := 0 ≤ a ∧ a < m
instance (m a : Int) : Decidable (okNd m a) := by unfold okNd; infer_instance
theorem isCut_drop {F : List Flt} {t a b : Int} {i : Nat} (h : i < F.length) : isCut (F.drop i) t a b = (decide ((F.getD i default).kd = 4 ∧ apl (F.getD i default) t a b) || isCut (F.drop (i + 1)) t a b) := by
  rw [drop_consG F h]; rfl
theorem rH14aC0 {σ : List Sg} {H h' : List Fam} {v : T} {K : T → List Fam → Prop} {H' : List Fam} {v' : T} {N : Nat} (hk : K v' H') (hN : H.length = N := by (try simp only [↓List.length_cons, ↓List.length_nil, Nat.reduceAdd]) <;> rfl) (h : givesF σ N H σ h' = some H' := by (try simp (maxSteps := 1000000) only [givesF, setF, updF, Fam.zeroth, Fam.rk, Ck.rk, C.rk, E.rk, T.rk, key, List.map_cons, List.map_nil, List.cons_append, List.nil_append, List.length_cons, List.length_nil, Option.map_some, Option.bind_some, Nat.reduceAdd, Nat.zero_add, Nat.add_zero, Nat.add_sub_cancel_left, Int.toNat_natCast, reps, List.all_cons, List.all_nil, C.flat, List.append_eq, Bool.not_true, Bool.and_true, Bool.or_false, Bool.or_self, Bool.not_false, List.append_nil, Bool.and_self, encF]) <;> rfl) (hv : v.rk σ N = v' := by (try simp only [givesF, setF, updF, Fam.zeroth, Fam.rk, Ck.rk, C.rk, E.rk, T.rk, key, List.map_cons, List.map_nil, List.cons_append, List.nil_append, List.length_cons, List.length_nil, Option.map_some, Option.bind_some, Nat.reduceAdd, Nat.zero_add, Nat.add_zero, Nat.add_sub_cancel_left, Int.toNat_natCast, reps, List.all_cons, List.all_nil, C.flat, List.append_eq, Bool.not_true, Bool.and_true, Bool.or_false, Bool.or_self, Bool.not_false, List.append_nil, Bool.and_self, encF]) <;> rfl) : RetG σ H h' v K := ret_mk3 hN h hv hk
set_option maxRecDepth 10000 in
set_option maxHeartbeats 4000000 in
theorem cCutR (N : Nt) (c k : Nat) (t a b : Int) (hF : N.F.length ≤ 64) : Ctr Try.prog 26 [.c (.p 0 0 0), .c (.i .i64 t), .c (.i .i64 a), .c (.i .i64 b)] [.one (ntC N c 2 k), .one (fltR true N.F c), .one .no]
    fun v h => v = .c (.b (decide ((okNd N.m a ∧ okNd N.m b ∧ a ≠ b) ∧ isCut N.F t a b = true))) ∧ h = [.one (ntC N c 2 k), .one (fltR true N.F c), .one .no] := by
  have hN : ¬ (okNd N.m a ∧ okNd N.m b ∧ a ≠ b) → decide ((okNd N.m a ∧ okNd N.m b ∧ a ≠ b) ∧ isCut N.F t a b = true) = false := fun h => decide_eq_false (fun q => h q.1)
  refine Ctr.mk' tbv mixed Try.func26 rfl rfl rfl (fun _ _ => by kernel_rfl) (by kernel_rfl) (by rfl) (by rfl) (by (repeat' first | refine And.intro ?_ ?_ | exact xeC | fail)) ?_
  repeat' (first | (fail_if_success (with_reducible refine xstp ?_)); first | ((with_reducible refine And.intro (fun (hb : _ = true) => ?_) (fun (hb : _ = false) => ?_)) <;> replace hb := xnC hb <;> (try first | exact xfC | exact bff hb (by assumption) | exact bff (by assumption) hb)) | (with_reducible refine Both.mk ?_ ?_) | ((with_reducible refine And.intro ?_ ?_); focus exact xoC) | ((with_reducible refine Or.inl ⟨?_, ?_, ?_⟩); (focus rfl); focus exact xaC) | ((with_reducible refine xwB ?_ ?_); focus exact xaC) | ((with_reducible refine xwC ?_ ?_); focus exact xaC) | ((with_reducible refine xwD ?_ ?_); focus exact xaC) | ((with_reducible refine xwE ?_ ?_); focus exact xaC) | (with_reducible intro hc; (try simp only [capsP, and_true] at hc); (try exact xfC)) | ((fail_if_success (with_reducible first | refine xgon ?_ | intro _)); (conv => whnf); (fail_if_success (fail_if_success (with_reducible first | refine xstp ?_ | refine Both.mk ?_ ?_ | refine xgon ?_ | intro _)))))
  refine xcal (σ := [.whole 0, .name 1, .name 2]) (nl := []) (cNode N c k a) ?_
  rintro v h' ⟨rfl, rfl⟩ hcaps
  refine xret ?_
  repeat' (first | (fail_if_success (with_reducible refine xstp ?_)); first | ((with_reducible refine And.intro (fun (hb : _ = true) => ?_) (fun (hb : _ = false) => ?_)) <;> replace hb := xnC hb <;> (try first | exact xfC | exact bff hb (by assumption) | exact bff (by assumption) hb)) | (with_reducible refine Both.mk ?_ ?_) | ((with_reducible refine And.intro ?_ ?_); focus exact xoC) | ((with_reducible refine Or.inl ⟨?_, ?_, ?_⟩); (focus rfl); focus exact xaC) | ((with_reducible refine xwB ?_ ?_); focus exact xaC) | ((with_reducible refine xwC ?_ ?_); focus exact xaC) | ((with_reducible refine xwD ?_ ?_); focus exact xaC) | ((with_reducible refine xwE ?_ ?_); focus exact xaC) | (with_reducible intro hc; (try simp only [capsP, and_true] at hc); (try exact xfC)) | ((fail_if_success (with_reducible first | refine xgon ?_ | intro _)); (conv => whnf); (fail_if_success (fail_if_success (with_reducible first | refine xstp ?_ | refine Both.mk ?_ ?_ | refine xgon ?_ | intro _)))))
  · skip
    rw [hN (by unfold okNd; omega)]
    refine FinK.mk ⟨[0, 1, 2], _, _, ⟨rfl, rfl⟩, ?_⟩; (repeat' first | refine And.intro ?_ ?_ | exact xeC | fail)
  refine xcal (σ := [.whole 0, .name 1, .name 2]) (nl := []) (cNode N c k b) ?_
  rintro v h' ⟨rfl, rfl⟩ hcaps
  refine xret ?_
  repeat' (first | (fail_if_success (with_reducible refine xstp ?_)); first | ((with_reducible refine And.intro (fun (hb : _ = true) => ?_) (fun (hb : _ = false) => ?_)) <;> replace hb := xnC hb <;> (try first | exact xfC | exact bff hb (by assumption) | exact bff (by assumption) hb)) | (with_reducible refine Both.mk ?_ ?_) | ((with_reducible refine And.intro ?_ ?_); focus exact xoC) | ((with_reducible refine Or.inl ⟨?_, ?_, ?_⟩); (focus rfl); focus exact xaC) | ((with_reducible refine xwB ?_ ?_); focus exact xaC) | ((with_reducible refine xwC ?_ ?_); focus exact xaC) | ((with_reducible refine xwD ?_ ?_); focus exact xaC) | ((with_reducible refine xwE ?_ ?_); focus exact xaC) | (with_reducible intro hc; (try simp only [capsP, and_true] at hc); (try exact xfC)) | ((fail_if_success (with_reducible first | refine xgon ?_ | intro _)); (conv => whnf); (fail_if_success (fail_if_success (with_reducible first | refine xstp ?_ | refine Both.mk ?_ ?_ | refine xgon ?_ | intro _)))))
  · skip
    rw [hN (by unfold okNd; omega)]
    refine FinK.mk ⟨[0, 1, 2], _, _, ⟨rfl, rfl⟩, ?_⟩; (repeat' first | refine And.intro ?_ ?_ | exact xeC | fail)
  · skip
    rw [hN (by unfold okNd; omega)]
    refine FinK.mk ⟨[0, 1, 2], _, _, ⟨rfl, rfl⟩, ?_⟩; (repeat' first | refine And.intro ?_ ?_ | exact xeC | fail)
  have hnd : okNd N.m a ∧ okNd N.m b ∧ a ≠ b := by
    unfold okNd
    omega
  refine LoopK.mk' {i : Nat // i ≤ N.F.length ∧ isCut (N.F.drop i) t a b = isCut N.F t a b}
    (fun ⟨i, _⟩ => ⟨[(0, .c (.p 0 0 0)), (1, .c (.i .i64 t)), (2, .c (.i .i64 a)), (3, .c (.i .i64 b)), (9, .c (.i .i64 (i : Nat)))],
      [.one (ntC N c 2 k), .one (fltR true N.F c), .one .no]⟩) (fun q => N.F.length - q.1)
    ⟨⟨0, Nat.zero_le _, rfl⟩, [0, 1, 2], ?_⟩ ?_
  · (repeat' first | refine And.intro ?_ ?_ | exact xeC | fail)
  rintro ⟨i, hi, hq⟩
  repeat' (first | (fail_if_success (with_reducible refine xstp ?_)); first | ((with_reducible refine And.intro (fun (hb : _ = true) => ?_) (fun (hb : _ = false) => ?_)) <;> replace hb := xnC hb <;> (try first | exact xfC | exact bff hb (by assumption) | exact bff (by assumption) hb)) | (with_reducible refine Both.mk ?_ ?_) | ((with_reducible refine And.intro ?_ ?_); focus exact xoC) | ((with_reducible refine Or.inl ⟨?_, ?_, ?_⟩); (focus rfl); focus exact xaC) | ((with_reducible refine xwB ?_ ?_); focus exact xaC) | ((with_reducible refine xwC ?_ ?_); focus exact xaC) | ((with_reducible refine xwD ?_ ?_); focus exact xaC) | ((with_reducible refine xwE ?_ ?_); focus exact xaC) | (with_reducible intro hc; (try simp only [capsP, and_true] at hc); (try exact xfC)) | ((fail_if_success (with_reducible first | refine xgon ?_ | intro _)); (conv => whnf); (fail_if_success (fail_if_success (with_reducible first | refine xstp ?_ | refine Both.mk ?_ ?_ | refine xgon ?_ | intro _)))))
  · have hlt : i < N.F.length := by omega
    have hd := isCut_drop (t := t) (a := a) (b := b) hlt
    have e1 : 0 + ((i : Nat) : Int).toNat = i := by omega
    rw [e1]
    refine xcal (σ := []) (nl := []) (cApplies (N.F.getD i default) t a b) ?_
    rintro v h' ⟨rfl, rfl⟩ hcaps
    refine rH14aC0 ?_
    repeat' (first | (fail_if_success (with_reducible refine xstp ?_)); first | ((with_reducible refine And.intro (fun (hb : _ = true) => ?_) (fun (hb : _ = false) => ?_)) <;> replace hb := xnC hb <;> (try first | exact xfC | exact bff hb (by assumption) | exact bff (by assumption) hb)) | (with_reducible refine Both.mk ?_ ?_) | ((with_reducible refine And.intro ?_ ?_); focus exact xoC) | ((with_reducible refine Or.inl ⟨?_, ?_, ?_⟩); (focus rfl); focus exact xaC) | ((with_reducible refine xwB ?_ ?_); focus exact xaC) | ((with_reducible refine xwC ?_ ?_); focus exact xaC) | ((with_reducible refine xwD ?_ ?_); focus exact xaC) | ((with_reducible refine xwE ?_ ?_); focus exact xaC) | (with_reducible intro hc; (try simp only [capsP, and_true] at hc); (try exact xfC)) | ((fail_if_success (with_reducible first | refine xgon ?_ | intro _)); (conv => whnf); (fail_if_success (fail_if_success (with_reducible first | refine xstp ?_ | refine Both.mk ?_ ?_ | refine xgon ?_ | intro _)))))
    · rw [decide_eq_true ⟨by assumption, hb⟩, Bool.true_or, hq] at hd
      rw [show decide ((okNd N.m a ∧ okNd N.m b ∧ a ≠ b) ∧ isCut N.F t a b = true) = true from decide_eq_true ⟨hnd, hd⟩]
      refine FinK.mk ⟨[0, 1, 2], _, _, ⟨rfl, rfl⟩, ?_⟩; (repeat' first | refine And.intro ?_ ?_ | exact xeC | fail)
    · rw [decide_eq_false (fun h => hb h.2), Bool.false_or, hq] at hd
      refine ⟨⟨i + 1, by omega, hd.symm⟩, [0, 1, 2], by simp only; omega, ?_⟩
      (repeat' first | refine And.intro ?_ ?_ | exact xeC | fail)
  · have hlt : i < N.F.length := by omega
    have hd := isCut_drop (t := t) (a := a) (b := b) hlt
    rw [decide_eq_false (fun h => hb h.1), Bool.false_or, hq] at hd
    refine ⟨⟨i + 1, by omega, hd.symm⟩, [0, 1, 2], by simp only; omega, ?_⟩
    (repeat' first | refine And.intro ?_ ?_ | exact xeC | fail)
  · obtain rfl : i = N.F.length := by omega
    rw [List.drop_length] at hq
    rw [show decide ((okNd N.m a ∧ okNd N.m b ∧ a ≠ b) ∧ isCut N.F t a b = true) = false from decide_eq_false (fun h => by rw [h.2] at hq; cases hq)]
    refine FinK.mk ⟨[0, 1, 2], _, _, ⟨rfl, rfl⟩, ?_⟩; (repeat' first | refine And.intro ?_ ?_ | exact xeC | fail)
/-! ### Send -/
/-- The time of the arrival, if nothing is lost. -/
def scn (t fr to : Int) : List Flt → Int → Option Int
  | [], x => some x
  | f :: F, x => if apl f t fr to then (if f.kd = 4 ∨ f.kd = 1 then none else scn t fr to F (if f.kd = 2 then x + f.ex else x)) else scn t fr to F x
/-- What the duplications add. -/
def adds (t fr to time : Int) : List Flt → List Arv → Arv → List Arv
  | [], P, _ => P
  | f :: F, P, a => if f.kd = 3 ∧ apl f t fr to then adds t fr to time F (insA P { a with cp := a.cp + 1, at_ := time + f.ex }) { a with cp := a.cp + 1, at_ := time + f.ex } else adds t fr to time F P a
def okS (N : Nt) (t fr to : Int) : Prop := (okNd N.m fr ∧ okNd N.m to ∧ fr ≠ to) ∧ (0 ≤ t ∧ t ≤ 1099511627776)
instance (N : Nt) (t fr to : Int) : Decidable (okS N t fr to) := by unfold okS; infer_instance
def sndE (N : Nt) (t fr to : Int) (d : ByteArray) : Int :=
  if ¬ okS N t fr to then 4 else if 4000 < d.size then 3 else if t < N.last then 17 else if 65536 ≤ N.P.length then 15 else 0
def sndP (N : Nt) (t fr to : Int) (d : ByteArray) : List Arv :=
  match scn t fr to N.F (t + N.lat) with
  | none => N.P
  | some x => adds t fr to x N.F (insA N.P ⟨x, fr, to, N.cnt + 1, 0, d⟩) ⟨x, fr, to, N.cnt + 1, 0, d⟩
def snd (N : Nt) (t fr to : Int) (d : ByteArray) : Nt := if sndE N t fr to d = 0 then { N with P := sndP N t fr to d, cnt := N.cnt + 1, last := t } else N
theorem rH14aC1 {σ : List Sg} {H h' : List Fam} {v : T} {K : T → List Fam → Prop} {H' : List Fam} {v' : T} {N : Nat} (hk : K v' H') (hN : H.length = N := by (try simp only [↓List.length_cons, ↓List.length_nil, Nat.reduceAdd]) <;> rfl) (h : givesF σ N H σ h' = some H' := by (try simp (maxSteps := 1000000) only [givesF, setF, updF, Fam.zeroth, Fam.rk, Ck.rk, C.rk, E.rk, T.rk, key, List.map_cons, List.map_nil, List.cons_append, List.nil_append, List.length_cons, List.length_nil, Option.map_some, Option.bind_some, Nat.reduceAdd, Nat.zero_add, Nat.add_zero, Nat.add_sub_cancel_left, Int.toNat_natCast, reps, List.all_cons, List.all_nil, C.flat, List.append_eq, Bool.not_true, Bool.and_true, Bool.or_false, Bool.or_self, Bool.not_false, List.append_nil, Bool.and_self, encR]) <;> rfl) (hv : v.rk σ N = v' := by (try simp only [givesF, setF, updF, Fam.zeroth, Fam.rk, Ck.rk, C.rk, E.rk, T.rk, key, List.map_cons, List.map_nil, List.cons_append, List.nil_append, List.length_cons, List.length_nil, Option.map_some, Option.bind_some, Nat.reduceAdd, Nat.zero_add, Nat.add_zero, Nat.add_sub_cancel_left, Int.toNat_natCast, reps, List.all_cons, List.all_nil, C.flat, List.append_eq, Bool.not_true, Bool.and_true, Bool.or_false, Bool.or_self, Bool.not_false, List.append_nil, Bool.and_self, encR]) <;> rfl) : RetG σ H h' v K := ret_mk3 hN h hv hk
set_option maxRecDepth 10000 in
set_option maxHeartbeats 4000000 in
theorem cSendR (N : Nt) (c k : Nat) (t a b : Int) (d : ByteArray) (hF : N.F.length ≤ 64) (hlat : 0 ≤ N.lat ∧ N.lat ≤ 1099511627776) (hex : ∀ f ∈ N.F, 0 ≤ f.ex ∧ f.ex ≤ 1099511627776) (hcnt : 0 ≤ N.cnt ∧ N.cnt ≤ 1099511627776) (hP : N.P.length ≤ 66000) :
    Ctr Try.prog 29 [.c (.p 0 0 0), .c (.i .i64 t), .c (.i .i64 a), .c (.i .i64 b), .c (.s d)] (ntH N c k)
      fun v h => ∃ k', v = .t [.c (.i .i64 (if sndE N t a b d = 0 then N.cnt + 1 else 0)), .c (.i .i64 (sndE N t a b d))] ∧ h = [.one (ntC (snd N t a b d) c 3 k'), .one (fltR true N.F c), .one .no, .one (arvR true (snd N t a b d).P k')] := by
  refine Ctr.mk' tbv mixed Try.func29 rfl rfl rfl (fun _ _ => by kernel_rfl) (by kernel_rfl) (by rfl) (by rfl) (by (repeat' first | refine And.intro ?_ ?_ | exact xeC | fail)) ?_
  repeat' (first | (fail_if_success (with_reducible refine xstp ?_)); first | ((with_reducible refine And.intro (fun (hb : _ = true) => ?_) (fun (hb : _ = false) => ?_)) <;> replace hb := xnC hb <;> (try first | exact xfC | exact bff hb (by assumption) | exact bff (by assumption) hb)) | (with_reducible refine Both.mk ?_ ?_) | ((with_reducible refine And.intro ?_ ?_); focus exact xoC) | ((with_reducible refine Or.inl ⟨?_, ?_, ?_⟩); (focus rfl); focus exact xaC) | ((with_reducible refine xwB ?_ ?_); focus exact xaC) | ((with_reducible refine xwC ?_ ?_); focus exact xaC) | ((with_reducible refine xwD ?_ ?_); focus exact xaC) | ((with_reducible refine xwE ?_ ?_); focus exact xaC) | (with_reducible intro hc; (try simp only [capsP, and_true] at hc); (try exact xfC)) | ((fail_if_success (with_reducible first | refine xgon ?_ | intro _)); (conv => whnf); (fail_if_success (fail_if_success (with_reducible first | refine xstp ?_ | refine Both.mk ?_ ?_ | refine xgon ?_ | intro _)))))
  refine xcal (σ := [.whole 0, .name 1, .name 2]) (nl := []) (cNode N c k a) ?_
  rintro v h' ⟨rfl, rfl⟩ hcaps
  refine xret ?_
  repeat' (first | (fail_if_success (with_reducible refine xstp ?_)); first | ((with_reducible refine And.intro (fun (hb : _ = true) => ?_) (fun (hb : _ = false) => ?_)) <;> replace hb := xnC hb <;> (try first | exact xfC | exact bff hb (by assumption) | exact bff (by assumption) hb)) | (with_reducible refine Both.mk ?_ ?_) | ((with_reducible refine And.intro ?_ ?_); focus exact xoC) | ((with_reducible refine Or.inl ⟨?_, ?_, ?_⟩); (focus rfl); focus exact xaC) | ((with_reducible refine xwB ?_ ?_); focus exact xaC) | ((with_reducible refine xwC ?_ ?_); focus exact xaC) | ((with_reducible refine xwD ?_ ?_); focus exact xaC) | ((with_reducible refine xwE ?_ ?_); focus exact xaC) | (with_reducible intro hc; (try simp only [capsP, and_true] at hc); (try exact xfC)) | ((fail_if_success (with_reducible first | refine xgon ?_ | intro _)); (conv => whnf); (fail_if_success (fail_if_success (with_reducible first | refine xstp ?_ | refine Both.mk ?_ ?_ | refine xgon ?_ | intro _)))))
  · skip
    have hE : sndE N t a b d = 4 := (if_pos (by unfold okS okNd; omega))
    have hS : snd N t a b d = N := if_neg (by rw [hE]; decide)
    rw [hE, hS, if_neg (by decide)]
    refine FinK.mk ⟨[0, 1, 2, 2], _, _, ⟨k, rfl, rfl⟩, ?_⟩
    (repeat' first | refine And.intro ?_ ?_ | exact xeC | fail)
  refine xcal (σ := [.whole 0, .name 1, .name 2]) (nl := []) (cNode N c k b) ?_
  rintro v h' ⟨rfl, rfl⟩ hcaps
  refine xret ?_
  repeat' (first | (fail_if_success (with_reducible refine xstp ?_)); first | ((with_reducible refine And.intro (fun (hb : _ = true) => ?_) (fun (hb : _ = false) => ?_)) <;> replace hb := xnC hb <;> (try first | exact xfC | exact bff hb (by assumption) | exact bff (by assumption) hb)) | (with_reducible refine Both.mk ?_ ?_) | ((with_reducible refine And.intro ?_ ?_); focus exact xoC) | ((with_reducible refine Or.inl ⟨?_, ?_, ?_⟩); (focus rfl); focus exact xaC) | ((with_reducible refine xwB ?_ ?_); focus exact xaC) | ((with_reducible refine xwC ?_ ?_); focus exact xaC) | ((with_reducible refine xwD ?_ ?_); focus exact xaC) | ((with_reducible refine xwE ?_ ?_); focus exact xaC) | (with_reducible intro hc; (try simp only [capsP, and_true] at hc); (try exact xfC)) | ((fail_if_success (with_reducible first | refine xgon ?_ | intro _)); (conv => whnf); (fail_if_success (fail_if_success (with_reducible first | refine xstp ?_ | refine Both.mk ?_ ?_ | refine xgon ?_ | intro _)))))
  · skip
    have hE : sndE N t a b d = 4 := (if_pos (by unfold okS okNd; omega))
    have hS : snd N t a b d = N := if_neg (by rw [hE]; decide)
    rw [hE, hS, if_neg (by decide)]
    refine FinK.mk ⟨[0, 1, 2, 2], _, _, ⟨k, rfl, rfl⟩, ?_⟩
    (repeat' first | refine And.intro ?_ ?_ | exact xeC | fail)
  · skip
    have hE : sndE N t a b d = 4 := (if_pos (by unfold okS okNd; omega))
    have hS : snd N t a b d = N := if_neg (by rw [hE]; decide)
    rw [hE, hS, if_neg (by decide)]
    refine FinK.mk ⟨[0, 1, 2, 2], _, _, ⟨k, rfl, rfl⟩, ?_⟩
    (repeat' first | refine And.intro ?_ ?_ | exact xeC | fail)
  · skip
    have hE : sndE N t a b d = 4 := (if_pos (by unfold okS okNd; omega))
    have hS : snd N t a b d = N := if_neg (by rw [hE]; decide)
    rw [hE, hS, if_neg (by decide)]
    refine FinK.mk ⟨[0, 1, 2, 2], _, _, ⟨k, rfl, rfl⟩, ?_⟩
    (repeat' first | refine And.intro ?_ ?_ | exact xeC | fail)
  · skip
    have hE : sndE N t a b d = 4 := (if_pos (by unfold okS okNd; omega))
    have hS : snd N t a b d = N := if_neg (by rw [hE]; decide)
    rw [hE, hS, if_neg (by decide)]
    refine FinK.mk ⟨[0, 1, 2, 2], _, _, ⟨k, rfl, rfl⟩, ?_⟩
    (repeat' first | refine And.intro ?_ ?_ | exact xeC | fail)
  all_goals (
    have hok : okS N t a b := by
      unfold okS okNd
      omega
    have hok2 := not_not_intro hok)
  · skip
    have hE : sndE N t a b d = 3 := (by unfold sndE; rw [if_neg hok2, if_pos (by omega)])
    have hS : snd N t a b d = N := if_neg (by rw [hE]; decide)
    rw [hE, hS, if_neg (by decide)]
    refine FinK.mk ⟨[0, 1, 2, 2], _, _, ⟨k, rfl, rfl⟩, ?_⟩
    (repeat' first | refine And.intro ?_ ?_ | exact xeC | fail)
  · skip
    have hE : sndE N t a b d = 17 := (by unfold sndE; rw [if_neg hok2, if_neg (by omega), if_pos (by omega)])
    have hS : snd N t a b d = N := if_neg (by rw [hE]; decide)
    rw [hE, hS, if_neg (by decide)]
    refine FinK.mk ⟨[0, 1, 2, 2], _, _, ⟨k, rfl, rfl⟩, ?_⟩
    (repeat' first | refine And.intro ?_ ?_ | exact xeC | fail)
  · skip
    have hE : sndE N t a b d = 15 := (by unfold sndE; rw [if_neg hok2, if_neg (by omega), if_neg (by omega), if_pos (by omega)])
    have hS : snd N t a b d = N := if_neg (by rw [hE]; decide)
    rw [hE, hS, if_neg (by decide)]
    refine FinK.mk ⟨[0, 1, 2, 2], _, _, ⟨k, rfl, rfl⟩, ?_⟩
    (repeat' first | refine And.intro ?_ ?_ | exact xeC | fail)
  have hE : sndE N t a b d = 0 := by unfold sndE; rw [if_neg hok2, if_neg (by omega), if_neg (by omega), if_neg (by omega)]
  have hS : snd N t a b d = { N with P := sndP N t a b d, cnt := N.cnt + 1, last := t } := if_pos hE
  rw [hE, hS, if_pos rfl]
  obtain ⟨hnd, ht⟩ := hok
  refine LoopK.mk' {p : Nat × Int // p.1 ≤ N.F.length ∧ scn t a b (N.F.drop p.1) p.2 = scn t a b N.F (t + N.lat) ∧ 0 ≤ p.2 ∧ p.2 ≤ 1099511627776 * (2 + p.1)}
    (fun ⟨(i, x), _⟩ => ⟨[(0, .c (.p 0 0 0)), (1, .c (.i .i64 t)), (2, .c (.i .i64 a)), (3, .c (.i .i64 b)), (4, .c (.s d)), (12, .c (.i .i64 x)), (13, .c (.i .i64 (i : Nat)))],
      [.one (ntC { N with cnt := N.cnt + 1, last := t } c 2 k), .one (fltR true N.F c), .one (arvR true N.P k)]⟩) (fun q => N.F.length - q.1.1)
    ⟨⟨(0, t + N.lat), Nat.zero_le _, rfl, by simp only; omega, by simp only; omega⟩, [0, 1, 2], ?_⟩ ?_
  · (repeat' first | refine And.intro ?_ ?_ | exact xeC | fail)
  rintro ⟨⟨i, x⟩, hi, hs, hx0, hx1⟩
  simp only at hi hs hx0 hx1
  repeat' (first | (fail_if_success (with_reducible refine xstp ?_)); first | ((with_reducible refine And.intro (fun (hb : _ = true) => ?_) (fun (hb : _ = false) => ?_)) <;> replace hb := xnC hb <;> (try first | exact xfC | exact bff hb (by assumption) | exact bff (by assumption) hb)) | (with_reducible refine Both.mk ?_ ?_) | ((with_reducible refine And.intro ?_ ?_); focus exact xoC) | ((with_reducible refine Or.inl ⟨?_, ?_, ?_⟩); (focus rfl); focus exact xaC) | ((with_reducible refine xwB ?_ ?_); focus exact xaC) | ((with_reducible refine xwC ?_ ?_); focus exact xaC) | ((with_reducible refine xwD ?_ ?_); focus exact xaC) | ((with_reducible refine xwE ?_ ?_); focus exact xaC) | (with_reducible intro hc; (try simp only [capsP, and_true] at hc); (try exact xfC)) | ((fail_if_success (with_reducible first | refine xgon ?_ | intro _)); (conv => whnf); (fail_if_success (fail_if_success (with_reducible first | refine xstp ?_ | refine Both.mk ?_ ?_ | refine xgon ?_ | intro _)))))
  · have hlt : i < N.F.length := by omega
    have hxi := hex (N.F.getD i default) (by rw [getD_at hlt]; exact List.getElem_mem _)
    have hd := drop_consG N.F hlt
    have e1 : 0 + ((i : Nat) : Int).toNat = i := by omega
    rw [e1]
    rw [hd, scn] at hs
    refine xcal (σ := []) (nl := []) (cApplies (N.F.getD i default) t a b) ?_
    rintro v h' ⟨rfl, rfl⟩ hcaps
    refine rH14aC0 ?_
    repeat' (first | (fail_if_success (with_reducible refine xstp ?_)); first | ((with_reducible refine And.intro (fun (hb : _ = true) => ?_) (fun (hb : _ = false) => ?_)) <;> replace hb := xnC hb <;> (try first | exact xfC | exact bff hb (by assumption) | exact bff (by assumption) hb)) | (with_reducible refine Both.mk ?_ ?_) | ((with_reducible refine And.intro ?_ ?_); focus exact xoC) | ((with_reducible refine Or.inl ⟨?_, ?_, ?_⟩); (focus rfl); focus exact xaC) | ((with_reducible refine xwB ?_ ?_); focus exact xaC) | ((with_reducible refine xwC ?_ ?_); focus exact xaC) | ((with_reducible refine xwD ?_ ?_); focus exact xaC) | ((with_reducible refine xwE ?_ ?_); focus exact xaC) | (with_reducible intro hc; (try simp only [capsP, and_true] at hc); (try exact xfC)) | ((fail_if_success (with_reducible first | refine xgon ?_ | intro _)); (conv => whnf); (fail_if_success (fail_if_success (with_reducible first | refine xstp ?_ | refine Both.mk ?_ ?_ | refine xgon ?_ | intro _)))))
    · rw [if_neg (by assumption)] at hs
      refine ⟨⟨(i + 1, x), by simp only; omega, hs, hx0, by simp only; omega⟩, [0, 1, 2], by simp only; omega, ?_⟩
      (repeat' first | refine And.intro ?_ ?_ | exact xeC | fail)
    · rw [if_pos (by assumption), if_pos (by omega)] at hs
      have hP0 : sndP N t a b d = N.P := by unfold sndP; rw [← hs]
      rw [hP0]
      refine FinK.mk ⟨[0, 1, 2, 2], _, _, ⟨k, rfl, rfl⟩, ?_⟩
      (repeat' first | refine And.intro ?_ ?_ | exact xeC | fail)
    · rw [if_pos (by assumption), if_pos (by omega)] at hs
      have hP0 : sndP N t a b d = N.P := by unfold sndP; rw [← hs]
      rw [hP0]
      refine FinK.mk ⟨[0, 1, 2, 2], _, _, ⟨k, rfl, rfl⟩, ?_⟩
      (repeat' first | refine And.intro ?_ ?_ | exact xeC | fail)
    · rw [if_pos (by assumption), if_neg (by omega), if_pos (by assumption)] at hs
      refine ⟨⟨(i + 1, x + (N.F.getD i default).ex), by simp only; omega, hs, by simp only; omega, by simp only; omega⟩, [0, 1, 2], by simp only; omega, ?_⟩
      (repeat' first | refine And.intro ?_ ?_ | exact xeC | fail)
    · rw [if_pos (by assumption), if_neg (by omega), if_neg (by assumption)] at hs
      refine ⟨⟨(i + 1, x), by simp only; omega, hs, hx0, by simp only; omega⟩, [0, 1, 2], by simp only; omega, ?_⟩
      (repeat' first | refine And.intro ?_ ?_ | exact xeC | fail)
  obtain rfl : i = N.F.length := by omega
  rw [List.drop_length, scn] at hs
  have hP0 : sndP N t a b d = adds t a b x N.F (insA N.P ⟨x, a, b, N.cnt + 1, 0, d⟩) ⟨x, a, b, N.cnt + 1, 0, d⟩ := by unfold sndP; rw [← hs]
  refine xcal (σ := [.whole 0, .name 1, .whole 2]) (nl := []) (cAddR { N with cnt := N.cnt + 1, last := t } c k ⟨x, a, b, N.cnt + 1, 0, d⟩ (by simp only; omega)) ?_
  rintro v h' ⟨k2, rfl, rfl⟩ hcaps
  refine rH14aC1 ?_
  repeat' (first | (fail_if_success (with_reducible refine xstp ?_)); first | ((with_reducible refine And.intro (fun (hb : _ = true) => ?_) (fun (hb : _ = false) => ?_)) <;> replace hb := xnC hb <;> (try first | exact xfC | exact bff hb (by assumption) | exact bff (by assumption) hb)) | (with_reducible refine Both.mk ?_ ?_) | ((with_reducible refine And.intro ?_ ?_); focus exact xoC) | ((with_reducible refine Or.inl ⟨?_, ?_, ?_⟩); (focus rfl); focus exact xaC) | ((with_reducible refine xwB ?_ ?_); focus exact xaC) | ((with_reducible refine xwC ?_ ?_); focus exact xaC) | ((with_reducible refine xwD ?_ ?_); focus exact xaC) | ((with_reducible refine xwE ?_ ?_); focus exact xaC) | (with_reducible intro hc; (try simp only [capsP, and_true] at hc); (try exact xfC)) | ((fail_if_success (with_reducible first | refine xgon ?_ | intro _)); (conv => whnf); (fail_if_success (fail_if_success (with_reducible first | refine xstp ?_ | refine Both.mk ?_ ?_ | refine xgon ?_ | intro _)))))
  rw [hP0]
  have hi0 := insA_len N.P ⟨x, a, b, N.cnt + 1, 0, d⟩
  refine LoopK.mk' {p : Nat × List Arv × Arv × Nat // p.1 ≤ N.F.length ∧ adds t a b x (N.F.drop p.1) p.2.1 p.2.2.1 = adds t a b x N.F (insA N.P ⟨x, a, b, N.cnt + 1, 0, d⟩) ⟨x, a, b, N.cnt + 1, 0, d⟩ ∧ p.2.1.length ≤ 66001 + p.1 ∧ 0 ≤ p.2.2.1.cp ∧ p.2.2.1.cp ≤ p.1}
    (fun ⟨(i, Q, y, k3), _⟩ => ⟨[(0, .c (.p 0 0 0)), (1, .c (.i .i64 t)), (2, .c (.i .i64 a)), (3, .c (.i .i64 b)), (12, .c (.i .i64 x)), (15, .c (.p 4 0 0)), (16, .c (.i .i64 (i : Nat)))],
      [.one (ntC { N with P := Q, cnt := N.cnt + 1, last := t } c 3 k3), .one (fltR true N.F c), .one .no, .one (arvR true Q k3), .one (.cells true (encR y))]⟩) (fun q => N.F.length - q.1.1)
    ⟨⟨(0, insA N.P ⟨x, a, b, N.cnt + 1, 0, d⟩, ⟨x, a, b, N.cnt + 1, 0, d⟩, k2), Nat.zero_le _, rfl, by simp only; omega, Int.le_refl _, Int.le_refl _⟩, [0, 1, 2, 4, 3], ?_⟩ ?_
  · (repeat' first | refine And.intro ?_ ?_ | exact xeC | fail)
  rintro ⟨⟨i, Q, y, k3⟩, hi, hs2, hQ, hy0, hy1⟩
  simp only at hi hs2 hQ hy0 hy1
  repeat' (first | (fail_if_success (with_reducible refine xstp ?_)); first | ((with_reducible refine And.intro (fun (hb : _ = true) => ?_) (fun (hb : _ = false) => ?_)) <;> replace hb := xnC hb <;> (try first | exact xfC | exact bff hb (by assumption) | exact bff (by assumption) hb)) | (with_reducible refine Both.mk ?_ ?_) | ((with_reducible refine And.intro ?_ ?_); focus exact xoC) | ((with_reducible refine Or.inl ⟨?_, ?_, ?_⟩); (focus rfl); focus exact xaC) | ((with_reducible refine xwB ?_ ?_); focus exact xaC) | ((with_reducible refine xwC ?_ ?_); focus exact xaC) | ((with_reducible refine xwD ?_ ?_); focus exact xaC) | ((with_reducible refine xwE ?_ ?_); focus exact xaC) | (with_reducible intro hc; (try simp only [capsP, and_true] at hc); (try exact xfC)) | ((fail_if_success (with_reducible first | refine xgon ?_ | intro _)); (conv => whnf); (fail_if_success (fail_if_success (with_reducible first | refine xstp ?_ | refine Both.mk ?_ ?_ | refine xgon ?_ | intro _)))))
  · have hlt : i < N.F.length := by omega
    have hxi := hex (N.F.getD i default) (by rw [getD_at hlt]; exact List.getElem_mem _)
    have hd := drop_consG N.F hlt
    have e1 : 0 + ((i : Nat) : Int).toNat = i := by omega
    rw [e1]
    rw [hd, adds] at hs2
    refine xcal (σ := []) (nl := []) (cApplies (N.F.getD i default) t a b) ?_
    rintro v h' ⟨rfl, rfl⟩ hcaps
    refine rH14aC0 ?_
    repeat' (first | (fail_if_success (with_reducible refine xstp ?_)); first | ((with_reducible refine And.intro (fun (hb : _ = true) => ?_) (fun (hb : _ = false) => ?_)) <;> replace hb := xnC hb <;> (try first | exact xfC | exact bff hb (by assumption) | exact bff (by assumption) hb)) | (with_reducible refine Both.mk ?_ ?_) | ((with_reducible refine And.intro ?_ ?_); focus exact xoC) | ((with_reducible refine Or.inl ⟨?_, ?_, ?_⟩); (focus rfl); focus exact xaC) | ((with_reducible refine xwB ?_ ?_); focus exact xaC) | ((with_reducible refine xwC ?_ ?_); focus exact xaC) | ((with_reducible refine xwD ?_ ?_); focus exact xaC) | ((with_reducible refine xwE ?_ ?_); focus exact xaC) | (with_reducible intro hc; (try simp only [capsP, and_true] at hc); (try exact xfC)) | ((fail_if_success (with_reducible first | refine xgon ?_ | intro _)); (conv => whnf); (fail_if_success (fail_if_success (with_reducible first | refine xstp ?_ | refine Both.mk ?_ ?_ | refine xgon ?_ | intro _)))))
    · rw [if_pos ⟨by assumption, by assumption⟩] at hs2
      rw [e1]
      refine xcal (σ := [.whole 0, .name 1, .whole 3]) (nl := []) (cAddR { N with P := Q, cnt := N.cnt + 1, last := t } c k3 { y with cp := y.cp + 1, at_ := x + (N.F.getD i default).ex } (by simp only; omega)) ?_
      rintro v h' ⟨k4, rfl, rfl⟩ hcaps
      refine rH14aC1 ?_
      repeat' (first | (fail_if_success (with_reducible refine xstp ?_)); first | ((with_reducible refine And.intro (fun (hb : _ = true) => ?_) (fun (hb : _ = false) => ?_)) <;> replace hb := xnC hb <;> (try first | exact xfC | exact bff hb (by assumption) | exact bff (by assumption) hb)) | (with_reducible refine Both.mk ?_ ?_) | ((with_reducible refine And.intro ?_ ?_); focus exact xoC) | ((with_reducible refine Or.inl ⟨?_, ?_, ?_⟩); (focus rfl); focus exact xaC) | ((with_reducible refine xwB ?_ ?_); focus exact xaC) | ((with_reducible refine xwC ?_ ?_); focus exact xaC) | ((with_reducible refine xwD ?_ ?_); focus exact xaC) | ((with_reducible refine xwE ?_ ?_); focus exact xaC) | (with_reducible intro hc; (try simp only [capsP, and_true] at hc); (try exact xfC)) | ((fail_if_success (with_reducible first | refine xgon ?_ | intro _)); (conv => whnf); (fail_if_success (fail_if_success (with_reducible first | refine xstp ?_ | refine Both.mk ?_ ?_ | refine xgon ?_ | intro _)))))
      have hi1 := insA_len Q { y with cp := y.cp + 1, at_ := x + (N.F.getD i default).ex }
      refine ⟨⟨(i + 1, insA Q { y with cp := y.cp + 1, at_ := x + (N.F.getD i default).ex }, { y with cp := y.cp + 1, at_ := x + (N.F.getD i default).ex }, k4), by simp only; omega, hs2, by simp only; omega, by simp only; omega, by simp only; omega⟩, [0, 1, 2, 5, 4], by simp only; omega, ?_⟩
      (repeat' first | refine And.intro ?_ ?_ | exact xeC | fail)
    · rw [if_neg (fun h => hb h.2)] at hs2
      refine ⟨⟨(i + 1, Q, y, k3), by simp only; omega, hs2, by simp only; omega, hy0, by simp only; omega⟩, [0, 1, 2, 3, 4], by simp only; omega, ?_⟩
      (repeat' first | refine And.intro ?_ ?_ | exact xeC | fail)
  · have hlt : i < N.F.length := by omega
    have hd := drop_consG N.F hlt
    rw [hd, adds, if_neg (fun h => hb h.1)] at hs2
    refine ⟨⟨(i + 1, Q, y, k3), by simp only; omega, hs2, by simp only; omega, hy0, by simp only; omega⟩, [0, 1, 2, 3, 4], by simp only; omega, ?_⟩
    (repeat' first | refine And.intro ?_ ?_ | exact xeC | fail)
  · obtain rfl : i = N.F.length := by omega
    rw [List.drop_length, adds] at hs2
    rw [← hs2]
    refine FinK.mk ⟨[0, 1, 2, 3], _, _, ⟨k3, rfl, rfl⟩, ?_⟩
    (repeat' first | refine And.intro ?_ ?_ | exact xeC | fail)
    all_goals skip
    done
end Go.Proofs.Ytnjakmpddghhjaa

namespace Go.Proofs.Ytnjakmpddghhjaa
open Go.X
set_option linter.unusedSimpArgs false
set_option linter.unusedVariables false
def encA (a : Arv) : List C := [.i .i64 a.at_, .i .i64 a.fr, .i .i64 a.to, .i .i64 a.no, .s a.d]
abbrev arvP (l : List Arv) (c : Nat) : Ck := .row true false 34 5 l.length c (rowOf encA l)
def lsG (l : List Arv) (c : Nat) : Ck :=
  match l with
  | [] => .no
  | a :: r => arvP (a :: r) c
theorem lsG_ne {l : List Arv} {c : Nat} (h : l ≠ []) : lsG l c = arvP l c := by cases l with | nil => exact absurd rfl h | cons a r => rfl
theorem lsG_bel {n : Nat} {l : List Arv} {c : Nat} : (lsG l c).belK n True := by
  cases l with
  | nil => trivial
  | cons a r => trivial
theorem lsG_rk (σ : List Sg) (N : Nat) (l : List Arv) (c : Nat) : (lsG l c).rk σ N = lsG l c := by cases l <;> rfl
theorem lsG_belR {σ : List Sg} {n N : Nat} {l : List Arv} {c : Nat} : ((lsG l c).rk σ N).belK n True := by rw [lsG_rk]; exact lsG_bel
theorem lsG_le {σ : List Sg} {N N' : Nat} {l : List Arv} {c : Nat} : (lsG l c).leK N ((lsG l c).rk σ N') True := by
  rw [lsG_rk]
  cases l with
  | nil => trivial
  | cons a r => (repeat' first | refine And.intro ?_ ?_ | exact xeC | fail)
/-- A network of the program: by times. -/
structure Pg where
  (m lat : Int) (F : List Flt) (D : Nat → List Arv) (M : List (Nat × Nat)) (ck : Nat) (cnt sent now : Int)
abbrev pgC' (N : Pg) (c p : Nat) : Ck := .cells true [.i .i64 N.m, .i .i64 N.lat, .sl 1 0 6 0 N.F.length c, .mp p 0, .i .i64 N.cnt, .i .i64 N.sent, .i .i64 N.now]
abbrev pgC (N : Pg) (c : Nat) : Ck := pgC' N c 2
abbrev mapN (f : Nat) (M : List (Nat × Nat)) (D : Nat → List Arv) (cs : Nat → Nat) (ck : Nat) : Ck := .map true true ck M.length fun i => ((M.getD i default).1, .i ((M.getD i default).2 : Nat), .c (.sl f (M.getD i default).2 5 0 (D (M.getD i default).2).length (cs (M.getD i default).2)))
abbrev arrs (D : Nat → List Arv) (cs : Nat → Nat) : Fam := .many fun x => lsG (D x) (cs x)
abbrev pgH (N : Pg) (c : Nat) (cs : Nat → Nat) : List Fam := [.one (pgC N c), .one (fltR true N.F c), .one (mapN 3 N.M N.D cs N.ck), arrs N.D cs]
structure PgOk (M : List (Nat × Nat)) (D : Nat → List Arv) (ck : Nat) : Prop where
  key : ∀ i j, i < j → j < M.length → (M.getD i default).2 ≠ (M.getD j default).2
  st : ∀ i j, i < j → j < M.length → (M.getD i default).1 ≠ (M.getD j default).1
  lt : ∀ i, i < M.length → (M.getD i default).1 < ck
  ne : ∀ i, i < M.length → D (M.getD i default).2 ≠ []
  all : ∀ x, D x ≠ [] → ∃ i, i < M.length ∧ (M.getD i default).2 = x
theorem PgOk.inj {M : List (Nat × Nat)} {D : Nat → List Arv} {ck : Nat} (h : PgOk M D ck) {i j : Nat} (hi : i < M.length) (hj : j < M.length) (e : (M.getD i default).2 = (M.getD j default).2) : i = j := by
  rcases (by omega : i < j ∨ j < i ∨ i = j) with q | q | q
  · exact absurd e (h.key i j q hj)
  · exact absurd e.symm (h.key j i q hi)
  · exact q
set_option maxRecDepth 10000 in
set_option maxHeartbeats 4000000 in
theorem cForce (N : Pg) (c : Nat) (kd t fr to : Int) (hF : N.F.length ≤ 64) : Ctr Try.prog 30 [.c (.p 0 0 0), .c (.i .i64 kd), .c (.i .i64 t), .c (.i .i64 fr), .c (.i .i64 to)] [.one (pgC N c), .one (fltR true N.F c), .one .no]
    fun v h => ∃ c', v = .c (.sl 3 0 6 0 (N.F.filter fun f => decide (f.kd = kd ∧ apl f t fr to)).length c') ∧ h = [.one (pgC N c), .one (fltR true N.F c), .one .no, .one (fltR true (N.F.filter fun f => decide (f.kd = kd ∧ apl f t fr to)) c')] := by
  refine Ctr.mk' tbv mixed Try.func30 rfl rfl rfl (fun _ _ => by kernel_rfl) (by kernel_rfl) (by rfl) (by rfl) (by (repeat' first | refine And.intro ?_ ?_ | exact xeC | fail)) ?_
  repeat' (first | (fail_if_success (with_reducible refine xstp ?_)); first | ((with_reducible refine And.intro (fun (hb : _ = true) => ?_) (fun (hb : _ = false) => ?_)) <;> replace hb := xnC hb <;> (try first | exact xfC | exact bff hb (by assumption) | exact bff (by assumption) hb)) | (with_reducible refine Both.mk ?_ ?_) | ((with_reducible refine And.intro ?_ ?_); focus exact xoC) | ((with_reducible refine Or.inl ⟨?_, ?_, ?_⟩); (focus rfl); focus exact xaC) | ((with_reducible refine xwB ?_ ?_); focus exact xaC) | ((with_reducible refine xwC ?_ ?_); focus exact xaC) | ((with_reducible refine xwD ?_ ?_); focus exact xaC) | ((with_reducible refine xwE ?_ ?_); focus exact xaC) | (with_reducible intro hc; (try simp only [capsP, and_true] at hc); (try exact xfC)) | ((fail_if_success (with_reducible first | refine xgon ?_ | intro _)); (conv => whnf); (fail_if_success (fail_if_success (with_reducible first | refine xstp ?_ | refine Both.mk ?_ ?_ | refine xgon ?_ | intro _)))))
  refine LoopK.mk' {p : Nat × Nat // p.1 ≤ N.F.length}
    (fun ⟨(i, c1), _⟩ => ⟨[(0, .c (.p 0 0 0)), (1, .c (.i .i64 kd)), (2, .c (.i .i64 t)), (3, .c (.i .i64 fr)), (4, .c (.i .i64 to)), (11, .c (.sl 3 0 6 0 ((N.F.take i).filter fun f => decide (f.kd = kd ∧ apl f t fr to)).length c1)), (17, .c (.sl 1 0 6 0 N.F.length c)), (18, .c (.i .i64 N.F.length)), (19, .c (.i .i64 (i : Nat)))],
      [.one (pgC N c), .one (fltR true N.F c), .one .no, .one (fltR true ((N.F.take i).filter fun f => decide (f.kd = kd ∧ apl f t fr to)) c1)]⟩) (fun q => N.F.length - q.1.1)
    ⟨⟨(0, 0), Nat.zero_le _⟩, [0, 1, 2, 99], ?_⟩ ?_
  · (repeat' first | refine And.intro ?_ ?_ | exact xeC | fail)
    all_goals (intro i hi; exact absurd hi (Nat.not_lt_zero i))
  rintro ⟨⟨i, c1⟩, hi⟩
  simp only at hi
  have hf1 := List.length_filter_le (fun f : Flt => decide (f.kd = kd ∧ apl f t fr to)) (N.F.take i)
  have htl : (N.F.take i).length = i := by rw [List.length_take]; omega
  repeat' (first | (fail_if_success (with_reducible refine xstp ?_)); first | ((with_reducible refine And.intro (fun (hb : _ = true) => ?_) (fun (hb : _ = false) => ?_)) <;> replace hb := xnC hb <;> (try first | exact xfC | exact bff hb (by assumption) | exact bff (by assumption) hb)) | (with_reducible refine Both.mk ?_ ?_) | ((with_reducible refine And.intro ?_ ?_); focus exact xoC) | ((with_reducible refine Or.inl ⟨?_, ?_, ?_⟩); (focus rfl); focus exact xaC) | ((with_reducible refine xwB ?_ ?_); focus exact xaC) | ((with_reducible refine xwC ?_ ?_); focus exact xaC) | ((with_reducible refine xwD ?_ ?_); focus exact xaC) | ((with_reducible refine xwE ?_ ?_); focus exact xaC) | (with_reducible intro hc; (try simp only [capsP, and_true] at hc); (try exact xfC)) | ((fail_if_success (with_reducible first | refine xgon ?_ | intro _)); (conv => whnf); (fail_if_success (fail_if_success (with_reducible first | refine xstp ?_ | refine Both.mk ?_ ?_ | refine xgon ?_ | intro _)))))
  all_goals try (
    have hlt : i < N.F.length := by omega
    have hts := take_snocG N.F hlt
    have q1 : (N.F.take (i + 1)).filter (fun f => decide (f.kd = kd ∧ apl f t fr to)) = (N.F.take i).filter (fun f => decide (f.kd = kd ∧ apl f t fr to)) := by
      rw [hts]; exact filt_n (decide_eq_false (fun h => by unfold apl at h; omega))
    refine ⟨⟨(i + 1, c1), by simp only; omega⟩, [0, 1, 2, 3], by simp only; omega, ?_⟩
    simp only [q1]
    (repeat' first | refine And.intro ?_ ?_ | exact xeC | fail)
    done)
  all_goals try (
    have hlt : i < N.F.length := by omega
    have hts := take_snocG N.F hlt
    rename_i c3
    have q1 : (N.F.take (i + 1)).filter (fun f => decide (f.kd = kd ∧ apl f t fr to)) = (N.F.take i).filter (fun f => decide (f.kd = kd ∧ apl f t fr to)) ++ [N.F.getD i default] := by
      rw [hts]; exact filt_y (decide_eq_true (by unfold apl; omega))
    refine ⟨⟨(i + 1, c3), by simp only; omega⟩, [0, 1, 2, 6], by simp only; omega, ?_⟩
    simp only [q1]
    (repeat' first | refine And.intro ?_ ?_ | exact xeC | fail)
    all_goals first | omega | (simp only [List.length_append, List.length_singleton]; done) | (rw [List.length_append, List.length_singleton]; omega) | (intro i hi; (first | refine app_rowG _ _ _ _ ?_ i hi | refine app_row _ _ _ ?_ i hi); first | rfl | (simp only [Int.toNat_natCast, Nat.zero_add]; rfl))
    done)
  · obtain rfl : i = N.F.length := by omega
    refine FinK.mk ⟨[0, 1, 2, 3], _, _, ⟨c1, rfl, rfl⟩, ?_⟩
    rw [List.take_length]
    (repeat' first | refine And.intro ?_ ?_ | exact xeC | fail)
def addD (D : Nat → List Arv) (a : Arv) : Nat → List Arv := fun y => if y = a.at_.toNat then D y ++ [a] else D y
def addM (M : List (Nat × Nat)) (D : Nat → List Arv) (ck : Nat) (a : Arv) : List (Nat × Nat) × Nat := if D a.at_.toNat = [] then (M ++ [(ck, a.at_.toNat)], ck + 1) else (M, ck)
theorem leK_cong {N : Nat} {q q' q'' : Ck} {A : Prop} (h : q' = q'') (hk : q.leK N q'' A) : q.leK N q' A := by
  rw [h]; exact hk
theorem addD_at {D : Nat → List Arv} {a : Arv} {x : Nat} (h : x = a.at_.toNat) : addD D a x = D x ++ [a] := if_pos h
theorem addD_ne {D : Nat → List Arv} {a : Arv} {x : Nat} (h : x ≠ a.at_.toNat) : addD D a x = D x := if_neg h
theorem add_map {M : List (Nat × Nat)} {D : Nat → List Arv} {ck : Nat} {cs : Nat → Nat} {a : Arv} {c2 j f nf tf : Nat} {σ : List Sg} (h1 : ∀ x, key σ 0 tf x = (if x = a.at_.toNat then nf else f, if x = a.at_.toNat then 0 else x))
    (hO : PgOk M D ck) (hj : j < M.length) (hk : (M.getD j default).2 = a.at_.toNat) {w : Int} (hw : w = (a.at_.toNat : Int)) (i : Nat) (hi : i < M.length) :
    (if i = j then ((M.getD j default).1, Key.i w, E.c (.sl nf 0 5 0 ((D (M.getD j default).2).length + 1) c2)) else ((M.getD i default).1, Key.i ((M.getD i default).2 : Nat), E.c (.sl f (M.getD i default).2 5 0 (D (M.getD i default).2).length (cs (M.getD i default).2)))) =
      ((M.getD i default).1, Key.i ((M.getD i default).2 : Nat), E.rk σ 0 (.c (.sl tf (M.getD i default).2 5 0 (addD D a (M.getD i default).2).length (if (M.getD i default).2 = a.at_.toNat then c2 else cs (M.getD i default).2)))) := by
  by_cases h : i = j
  · subst h
    rw [if_pos rfl, if_pos hk, addD_at hk, List.length_append, List.length_singleton]
    simp only [E.rk, C.rk, h1, hk, if_true]
    rw [hw]
  · have h3 : ¬ (M.getD i default).2 = a.at_.toNat := fun e => h (hO.inj hi hj (e.trans hk.symm))
    rw [if_neg h, if_neg h3, addD_ne h3]
    simp only [E.rk, C.rk, h1, if_neg h3]
theorem add_map2 {M : List (Nat × Nat)} {D : Nat → List Arv} {ck : Nat} {cs : Nat → Nat} {a : Arv} {c2 f nf tf : Nat} {σ : List Sg} (h1 : ∀ x, key σ 0 tf x = (if x = a.at_.toNat then nf else f, if x = a.at_.toNat then 0 else x))
    (hno : ∀ i, i < M.length → (M.getD i default).2 ≠ a.at_.toNat) (he : D a.at_.toNat = []) {w : Int} (hw : w = (a.at_.toNat : Int)) (i : Nat) (hi : i < (M ++ [(ck, a.at_.toNat)]).length) :
    (if i = M.length then (ck, Key.i w, E.c (.sl nf 0 5 0 1 c2)) else ((M.getD i default).1, Key.i ((M.getD i default).2 : Nat), E.c (.sl f (M.getD i default).2 5 0 (D (M.getD i default).2).length (cs (M.getD i default).2)))) =
      (((M ++ [(ck, a.at_.toNat)]).getD i default).1, Key.i (((M ++ [(ck, a.at_.toNat)]).getD i default).2 : Nat), E.rk σ 0 (.c (.sl tf ((M ++ [(ck, a.at_.toNat)]).getD i default).2 5 0 (addD D a ((M ++ [(ck, a.at_.toNat)]).getD i default).2).length (if ((M ++ [(ck, a.at_.toNat)]).getD i default).2 = a.at_.toNat then c2 else cs ((M ++ [(ck, a.at_.toNat)]).getD i default).2)))) := by
  by_cases h : i = M.length
  · subst h
    have e : (M ++ [(ck, a.at_.toNat)]).getD M.length default = (ck, a.at_.toNat) := by simp [List.getD]
    rw [if_pos rfl, e]
    simp only [if_true, addD_at (D := D) (a := a) (x := a.at_.toNat) rfl, he, E.rk, C.rk, h1, List.nil_append, List.length_singleton]
    rw [hw]
  · have hlt : i < M.length := by simp at hi; omega
    have e : (M ++ [(ck, a.at_.toNat)]).getD i default = M.getD i default := by simp [List.getD, List.getElem?_append_left hlt]
    have h3 := hno i hlt
    rw [if_neg h, e, if_neg h3, addD_ne h3]
    simp only [E.rk, C.rk, h1, if_neg h3]
set_option maxRecDepth 10000 in
set_option maxHeartbeats 4000000 in
theorem cAdd (N : Pg) (c : Nat) (cs : Nat → Nat) (a : Arv) (hO : PgOk N.M N.D N.ck) (ha : 0 ≤ a.at_) (hl : (N.D a.at_.toNat).length ≤ 100000) (hcn : 0 ≤ N.cnt ∧ N.cnt ≤ 1099511627776) :
    Ctr Try.prog 31 [.c (.p 0 0 0), .a (encA a)] [.one (pgC N c), .one .no, .one (mapN 3 N.M N.D cs N.ck), arrs N.D cs]
      fun v h => ∃ cs', v = .t [] ∧ h = [.one (pgC { N with cnt := N.cnt + 1 } c), .one .no, .one (mapN 4 (addM N.M N.D N.ck a).1 (addD N.D a) cs' (addM N.M N.D N.ck a).2), .one .no, arrs (addD N.D a) cs'] := by
  refine Ctr.mk' tbv mixed Try.func31 rfl rfl rfl (fun _ _ => by kernel_rfl) (by kernel_rfl) (by rfl) (by rfl) (by (repeat' first | refine And.intro ?_ ?_ | exact xeC | fail) <;> exact fun x => lsG_bel) ?_
  repeat' (first | (fail_if_success (with_reducible refine xstp ?_)); first | ((with_reducible refine And.intro (fun (hb : _ = true) => ?_) (fun (hb : _ = false) => ?_)) <;> replace hb := xnC hb <;> (try first | exact xfC | exact bff hb (by assumption) | exact bff (by assumption) hb)) | (with_reducible refine Both.mk ?_ ?_) | ((with_reducible refine And.intro ?_ ?_); focus exact xoC) | ((with_reducible refine Or.inl ⟨?_, ?_, ?_⟩); (focus rfl); focus exact xaC) | ((with_reducible refine xwB ?_ ?_); focus exact xaC) | ((with_reducible refine xwC ?_ ?_); focus exact xaC) | ((with_reducible refine xwD ?_ ?_); focus exact xaC) | ((with_reducible refine xwE ?_ ?_); focus exact xaC) | (with_reducible intro hc; (try simp only [capsP, and_true] at hc); (try exact xfC)) | ((fail_if_success (with_reducible first | refine xgon ?_ | intro _)); (conv => whnf); (fail_if_success (fail_if_success (with_reducible first | refine xstp ?_ | refine Both.mk ?_ ?_ | refine xgon ?_ | intro _)))))
  · skip
    rename_i i hi
    have hk : (N.M.getD i default).2 = a.at_.toNat := by have := Key.i.inj hc; omega
    have hne := hO.ne i hi
    have hl2 : (N.D (N.M.getD i default).2).length ≤ 100000 := by rw [hk]; exact hl
    refine ManyK.mk ⟨arvP (N.D (N.M.getD i default).2) (cs (N.M.getD i default).2), lsG_ne hne, ?_⟩
    repeat' (first | (fail_if_success (with_reducible refine xstp ?_)); first | ((with_reducible refine And.intro (fun (hb : _ = true) => ?_) (fun (hb : _ = false) => ?_)) <;> replace hb := xnC hb <;> (try first | exact xfC | exact bff hb (by assumption) | exact bff (by assumption) hb)) | (with_reducible refine Both.mk ?_ ?_) | ((with_reducible refine And.intro ?_ ?_); focus exact xoC) | ((with_reducible refine Or.inl ⟨?_, ?_, ?_⟩); (focus rfl); focus exact xaC) | ((with_reducible refine xwB ?_ ?_); focus exact xaC) | ((with_reducible refine xwC ?_ ?_); focus exact xaC) | ((with_reducible refine xwD ?_ ?_); focus exact xaC) | ((with_reducible refine xwE ?_ ?_); focus exact xaC) | (with_reducible intro hc; (try simp only [capsP, and_true] at hc); (try exact xfC)) | ((fail_if_success (with_reducible first | refine xgon ?_ | intro _)); (conv => whnf); (fail_if_success (fail_if_success (with_reducible first | refine xstp ?_ | refine Both.mk ?_ ?_ | refine xgon ?_ | intro _)))))
    · rename_i hkey hcap c2 hc2 j hj
      obtain rfl : j = i := hO.inj hj hi (by have := Key.i.inj hc; omega)
      have hM : addM N.M N.D N.ck a = (N.M, N.ck) := if_neg (by rw [← hk]; exact hne)
      rw [hM]
      refine FinK.mk ⟨[0, 1, 2, 3, .adopt 3 a.at_.toNat 6], _, _, ⟨fun y => if y = a.at_.toNat then c2 else cs y, rfl, rfl⟩, ?_⟩
      (repeat' first | refine And.intro ?_ ?_ | exact xeC | fail)
      all_goals first
        | exact add_map (by simp [key]) hO hj hk (Int.toNat_of_nonneg ha).symm
        | (intro x hx
           show Ck.leK _ (if x = (N.M.getD j default).2 then Ck.no else lsG (N.D x) (cs x)) (Ck.rk _ _ (lsG (addD N.D a x) (if x = a.at_.toNat then c2 else cs x))) True
           rw [if_neg (by rw [hk]; exact hx), if_neg hx, addD_ne hx]
           exact lsG_le)
        | (refine leK_cong (q'' := arvP (N.D (N.M.getD j default).2 ++ [a]) c2) (by
             show Ck.rk _ _ (lsG (addD N.D a a.at_.toNat) (if a.at_.toNat = a.at_.toNat then c2 else cs a.at_.toNat)) = _
             rw [if_pos rfl, lsG_rk, addD_at rfl, ← hk, lsG_ne (by simp)]) ?_
           (repeat' first | refine And.intro ?_ ?_ | exact xeC | fail)
           all_goals first
             | exact fun x => lsG_bel
             | omega
             | exact Nat.le_of_eq (by simp)
             | (simp; done)
             | (intro q hq; exact app_rowG encA _ a _ rfl q hq)
             | skip)
    · exact absurd (by assumption) (hc i hi)
  · rename_i hno c2 hc2 j hj
    exact absurd hc (hno j hj)
  · skip
    rename_i hno0 c2 hc2
    have hno : ∀ i, i < N.M.length → (N.M.getD i default).2 ≠ a.at_.toNat := fun i hi e => hc i hi (by rw [e, Int.toNat_of_nonneg ha])
    have he : N.D a.at_.toNat = [] := by
      by_cases h : N.D a.at_.toNat = []
      · exact h
      · obtain ⟨i, hi, e⟩ := hO.all _ h
        exact absurd e (hno i hi)
    have hM : addM N.M N.D N.ck a = (N.M ++ [(N.ck, a.at_.toNat)], N.ck + 1) := if_pos he
    rw [hM]
    refine FinK.mk ⟨[0, 1, 2, 3, .adopt 3 a.at_.toNat 6], _, _, ⟨fun y => if y = a.at_.toNat then c2 else cs y, rfl, rfl⟩, ?_⟩
    (repeat' first | refine And.intro ?_ ?_ | exact xeC | fail)
    all_goals first
      | (simp; done)
      | exact add_map2 (by simp [key]) hno he (Int.toNat_of_nonneg ha).symm
      | (intro x hx
         show Ck.leK _ (lsG (N.D x) (cs x)) (Ck.rk _ _ (lsG (addD N.D a x) (if x = a.at_.toNat then c2 else cs x))) True
         rw [if_neg hx, addD_ne hx]
         exact lsG_le)
      | (refine leK_cong (q'' := arvP [a] c2) (by
           show Ck.rk _ _ (lsG (addD N.D a a.at_.toNat) (if a.at_.toNat = a.at_.toNat then c2 else cs a.at_.toNat)) = _
           rw [if_pos rfl, lsG_rk, addD_at rfl, he]
           rfl) ?_
         (repeat' first | refine And.intro ?_ ?_ | exact xeC | fail)
         all_goals exact fun x => lsG_bel)
  · skip
    rename_i i hi
    have hk : (N.M.getD i default).2 = a.at_.toNat := by have := Key.i.inj hc; omega
    have hne := hO.ne i hi
    have hl2 : (N.D (N.M.getD i default).2).length ≤ 100000 := by rw [hk]; exact hl
    refine ManyK.mk ⟨arvP (N.D (N.M.getD i default).2) (cs (N.M.getD i default).2), lsG_ne hne, ?_⟩
    repeat' (first | (fail_if_success (with_reducible refine xstp ?_)); first | ((with_reducible refine And.intro (fun (hb : _ = true) => ?_) (fun (hb : _ = false) => ?_)) <;> replace hb := xnC hb <;> (try first | exact xfC | exact bff hb (by assumption) | exact bff (by assumption) hb)) | (with_reducible refine Both.mk ?_ ?_) | ((with_reducible refine And.intro ?_ ?_); focus exact xoC) | ((with_reducible refine Or.inl ⟨?_, ?_, ?_⟩); (focus rfl); focus exact xaC) | ((with_reducible refine xwB ?_ ?_); focus exact xaC) | ((with_reducible refine xwC ?_ ?_); focus exact xaC) | ((with_reducible refine xwD ?_ ?_); focus exact xaC) | ((with_reducible refine xwE ?_ ?_); focus exact xaC) | (with_reducible intro hc; (try simp only [capsP, and_true] at hc); (try exact xfC)) | ((fail_if_success (with_reducible first | refine xgon ?_ | intro _)); (conv => whnf); (fail_if_success (fail_if_success (with_reducible first | refine xstp ?_ | refine Both.mk ?_ ?_ | refine xgon ?_ | intro _)))))
    · rename_i hkey hcap c2 hc2 j hj
      obtain rfl : j = i := hO.inj hj hi (by have := Key.i.inj hc; omega)
      have hM : addM N.M N.D N.ck a = (N.M, N.ck) := if_neg (by rw [← hk]; exact hne)
      rw [hM]
      refine FinK.mk ⟨[0, 1, 2, 3, .adopt 3 a.at_.toNat 6], _, _, ⟨fun y => if y = a.at_.toNat then c2 else cs y, rfl, rfl⟩, ?_⟩
      (repeat' first | refine And.intro ?_ ?_ | exact xeC | fail)
      all_goals first
        | exact add_map (by simp [key]) hO hj hk (Int.toNat_of_nonneg ha).symm
        | (intro x hx
           show Ck.leK _ (if x = (N.M.getD j default).2 then Ck.no else lsG (N.D x) (cs x)) (Ck.rk _ _ (lsG (addD N.D a x) (if x = a.at_.toNat then c2 else cs x))) True
           rw [if_neg (by rw [hk]; exact hx), if_neg hx, addD_ne hx]
           exact lsG_le)
        | (refine leK_cong (q'' := arvP (N.D (N.M.getD j default).2 ++ [a]) c2) (by
             show Ck.rk _ _ (lsG (addD N.D a a.at_.toNat) (if a.at_.toNat = a.at_.toNat then c2 else cs a.at_.toNat)) = _
             rw [if_pos rfl, lsG_rk, addD_at rfl, ← hk, lsG_ne (by simp)]) ?_
           (repeat' first | refine And.intro ?_ ?_ | exact xeC | fail)
           all_goals first
             | exact fun x => lsG_bel
             | omega
             | exact Nat.le_of_eq (by simp)
             | (simp; done)
             | (intro q hq; exact app_rowG encA _ a _ rfl q hq)
             | skip)
    · exact absurd (by assumption) (hc i hi)
  · rename_i hno c2 hc2 j hj
    exact absurd hc (hno j hj)
  · skip
    rename_i hno0 c2 hc2
    have hno : ∀ i, i < N.M.length → (N.M.getD i default).2 ≠ a.at_.toNat := fun i hi e => hc i hi (by rw [e, Int.toNat_of_nonneg ha])
    have he : N.D a.at_.toNat = [] := by
      by_cases h : N.D a.at_.toNat = []
      · exact h
      · obtain ⟨i, hi, e⟩ := hO.all _ h
        exact absurd e (hno i hi)
    have hM : addM N.M N.D N.ck a = (N.M ++ [(N.ck, a.at_.toNat)], N.ck + 1) := if_pos he
    rw [hM]
    refine FinK.mk ⟨[0, 1, 2, 3, .adopt 3 a.at_.toNat 6], _, _, ⟨fun y => if y = a.at_.toNat then c2 else cs y, rfl, rfl⟩, ?_⟩
    (repeat' first | refine And.intro ?_ ?_ | exact xeC | fail)
    all_goals first
      | (simp; done)
      | exact add_map2 (by simp [key]) hno he (Int.toNat_of_nonneg ha).symm
      | (intro x hx
         show Ck.leK _ (lsG (N.D x) (cs x)) (Ck.rk _ _ (lsG (addD N.D a x) (if x = a.at_.toNat then c2 else cs x))) True
         rw [if_neg hx, addD_ne hx]
         exact lsG_le)
      | (refine leK_cong (q'' := arvP [a] c2) (by
           show Ck.rk _ _ (lsG (addD N.D a a.at_.toNat) (if a.at_.toNat = a.at_.toNat then c2 else cs a.at_.toNat)) = _
           rw [if_pos rfl, lsG_rk, addD_at rfl, he]
           rfl) ?_
         (repeat' first | refine And.intro ?_ ?_ | exact xeC | fail)
         all_goals exact fun x => lsG_bel)
end Go.Proofs.Ytnjakmpddghhjaa
