/- Part 2 of the texts that a walk of this program rests on: an abstract machine, its soundness, contracts of functions. No statement of the seat is proved in this file. -/
import Derived.Test.YthadbaknlipacaaZ1
import Derived.Maps.RangeRun
import Derived.OrdersHeld
import Derived.Deep.LoopGhost
import Derived.ProofKit
import Derived.SliceStrings
import Derived.SizedLaws
import Derived.Carry
import Derived.OpenShut
set_option linter.constructorNameAsVariable false
set_option linter.unusedVariables false
set_option linter.unusedSimpArgs false
namespace Go.X
variable {cx : Cx} {β : Nm} {s : S} {a : Act} {w : World} {P : Program} {tb : Tb}

def KindOk (u : TypeDesc) (key : Key) : Prop :=
  match key with
  | .i _ => u = .int .i64
  | .s _ => u = .string

theorem Key.ren_inj {a b : Key} (h : a.ren = b.ren) : a = b := by
  cases a <;> cases b <;> simp [Key.ren] at h <;> rw [h]

theorem keyOf_of {sh : Sh} {c : C} {K : Key → Prop} (h : keyOfK sh c K) {u : TypeDesc} (hu : sh = shOf P u) : ∃ key : Key, c.ren β = key.ren ∧ KindOk u key ∧ K key := by
  unfold keyOfK at h
  split at h
  · rename_i k n
    split at h
    · rename_i k'
      obtain ⟨rfl, h1⟩ := sameK_of h
      obtain ⟨rfl, h2⟩ := sameK_of h1
      exact ⟨.i n, rfl, shOf_int hu.symm, h2⟩
    · exact h.elim
  · split at h
    · exact ⟨.s _, rfl, shOf_str hu.symm, h⟩
    · exact h.elim
  · exact h.elim

theorem ba_beq (b c : ByteArray) : (b == c) = decide (b = c) := by
  have h : (b == c) = (b.data == c.data) := rfl
  rw [h]
  by_cases hbc : b = c
  · subst hbc; simp
  · have : b.data ≠ c.data := fun e => hbc (by cases b; cases c; simp_all)
    simp [hbc, this]

theorem sameNow_of {u : TypeDesc} {key k' : Key} (hk : KindOk u key) (hs : k'.sk key = true) : Instr.sameNow u key.ren k'.ren = some (decide (key = k')) := by
  cases key with
  | i n =>
    have : u = .int .i64 := hk
    subst this
    cases k' with
    | i m =>
      simp only [Instr.sameNow, Key.ren, if_true]
      by_cases h : n = m <;> simp [h]
    | s b => cases hs
  | s b =>
    have : u = .string := hk
    subst this
    cases k' with
    | i m => cases hs
    | s c =>
      simp only [Instr.sameNow, Key.ren]
      congr 1
      exact (ba_beq b c).trans (decide_eq_decide.2 ⟨fun h => by rw [h], fun h => by cases h; rfl⟩)

theorem findNow_of {u : TypeDesc} {key : Key} (hk : KindOk u key) : ∀ (l : List MapEntry) (i0 : Nat), (∀ e ∈ l, ∃ k' : Key, e.key = k'.ren ∧ k'.sk key = true) →
    (∃ (j : Nat) (e : MapEntry), l[j]? = some e ∧ e.key = key.ren ∧ Instr.findNow u key.ren l i0 = some (some (i0 + j, e.val))) ∨ ((∀ e ∈ l, e.key ≠ key.ren) ∧ Instr.findNow u key.ren l i0 = some none)
  | [], i0, _ => .inr ⟨by simp, rfl⟩
  | e :: l, i0, h => by
    obtain ⟨k', he, hs⟩ := h e (by simp)
    unfold Instr.findNow
    rw [he, sameNow_of hk hs]
    by_cases hkk : key = k'
    · left
      refine ⟨0, e, rfl, by rw [he, hkk], ?_⟩
      simp [hkk]
    · rw [decide_eq_false hkk]
      rcases findNow_of hk l (i0 + 1) (fun e' h' => h e' (by simp [h'])) with ⟨j, e', h1, h2, h3⟩ | ⟨h1, h2⟩
      · left
        refine ⟨j + 1, e', by simpa using h1, h2, ?_⟩
        simp only [h3]
        congr 3; omega
      · right
        refine ⟨fun e' h' => ?_, h2⟩
        rcases List.mem_cons.1 h' with rfl | h'
        · rw [he]; exact fun h => hkk (Key.ren_inj h).symm
        · exact h1 e' h'

/-- What is held of a map's entries. -/
def Ents (β : Nm) (es : Array MapEntry) (n : Nat) (g : Nat → Nat × Key × E) : Prop := es.size = n ∧ ∀ i, i < n → es[i]? = some ⟨(g i).2.1.ren, (g i).2.2.ren β, (g i).1⟩

theorem findKey_of {kt : TypeId} {u : TypeDesc} (hu : P.underlying kt = some u) {key : Key} (hk : KindOk u key) {es : Array MapEntry} {n : Nat} {g : Nat → Nat × Key × E} (he : Ents β es n g) (hs : ∀ i, i < n → (g i).2.1.sk key = true) :
    (∃ i, i < n ∧ (g i).2.1 = key ∧ ∀ w, (Instr.findKey kt key.ren es.toList).run P w = .ok (some (i, (g i).2.2.ren β)) w) ∨ ((∀ i, i < n → (g i).2.1 ≠ key) ∧ ∀ w, (Instr.findKey kt key.ren es.toList).run P w = .ok none w) := by
  obtain ⟨hn, hg⟩ := he
  have hget : ∀ (i : Nat) (e : MapEntry), es.toList[i]? = some e → i < n ∧ e = ⟨(g i).2.1.ren, (g i).2.2.ren β, (g i).1⟩ := by
    intro i e h
    rw [Array.getElem?_toList] at h
    have hi : i < n := by have := (Array.getElem?_eq_some_iff.1 h).1; omega
    rw [hg i hi] at h
    cases h
    exact ⟨hi, rfl⟩
  have hkeys : ∀ e ∈ es.toList, ∃ k' : Key, e.key = k'.ren ∧ k'.sk key = true := by
    intro e h
    obtain ⟨i, h⟩ := List.getElem?_of_mem h
    obtain ⟨hi, rfl⟩ := hget i e h
    exact ⟨_, rfl, hs i hi⟩
  rcases findNow_of hk es.toList 0 hkeys with ⟨j, e, h1, h2, h3⟩ | ⟨h1, h2⟩
  · obtain ⟨hj, rfl⟩ := hget j e h1
    left
    refine ⟨j, hj, Key.ren_inj h2, fun w => ?_⟩
    rw [Nat.zero_add] at h3
    simp only [Instr.findKey, Sem.run_bind, run_underlying hu, Result.andThen_ok, h3, Sem.run_pure]
  · right
    refine ⟨fun i hi h => h1 _ (List.mem_of_getElem? (i := i) (by rw [Array.getElem?_toList]; exact hg i hi)) (by rw [h]), fun w => ?_⟩
    simp only [Instr.findKey, Sem.run_bind, run_underlying hu, Result.andThen_ok, h2, Sem.run_pure]

theorem checkKey_of1 {kt : TypeId} {u : TypeDesc} (hu : P.underlying kt = some u) {key : Key} (hk : KindOk u key) (em : Bool) (w : World) (n : Nat) : (Instr.checkKey em (n + 1) kt key.ren).run P w = .ok () w := by
  cases key with
  | i m =>
    have : u = .int .i64 := hk
    subst this
    simp only [Instr.checkKey, Sem.run_bind, run_underlying hu, Result.andThen_ok, Key.ren]
    rfl
  | s b =>
    have : u = .string := hk
    subst this
    simp only [Instr.checkKey, Sem.run_bind, run_underlying hu, Result.andThen_ok, Key.ren]
    rfl
theorem checkKey_of {kt : TypeId} {u : TypeDesc} (hu : P.underlying kt = some u) {key : Key} (hk : KindOk u key) (em : Bool) (w : World) : (Instr.checkKey em 10000 kt key.ren).run P w = .ok () w := checkKey_of1 hu hk em w 9999

theorem zeroE_of {et : TypeId} {d : Td} (hd : Td.of P et = some d) {K : E → Prop} (h : zeroEK d K) : ∃ e : E, (∀ w, (zeroValue et).run P w = .ok (e.ren β) w) ∧ e.flat = true ∧ K e := by
  obtain ⟨hz, h⟩ := ifB_of h
  obtain ⟨i, u, hi, hu, hs, _, hsh, hzz⟩ := Td.of_spec hd
  obtain ⟨z, h1, hl, h2⟩ := hzz hz
  have hshB := Td.zsh hd hz hi h1
  have hrun : ∀ w, (zeroValue et).run P w = .ok z w := fun w => by simp [zeroValue, typeInfo, hi, h1]
  have hfl := zero_flat' hd
  have agg : (∀ cs, z ≠ .agg cs) ∨ z = .agg (renL β d.zero) := by
    cases hzc : z with
    | agg cs => right; have := h2 β; rw [hzc] at this; simp only [Value.cells] at this; rw [this]
    | _ => left; intro cs h; cases h
  have isagg : (zshB z d.sh = true → z = .agg (renL β d.zero)) → ∃ e : E, (∀ w, (zeroValue et).run P w = .ok (e.ren β) w) ∧ e.flat = true ∧ e = .a d.zero := by
    intro hh
    refine ⟨.a d.zero, fun w => by rw [hrun w, hh hshB]; rfl, ?_, rfl⟩
    exact List.all_eq_true.2 (fun v hv => hfl v hv)
  split at h
  · rename_i fl hd'
    obtain ⟨e, q1, q2, q3⟩ := isagg (fun hb => by
      rcases agg with hn | hn
      · rw [hd'] at hb
        cases z <;> first | (cases hb; done) | exact absurd rfl (hn _)
      · exact hn)
    exact ⟨e, q1, q2, by rw [q3]; exact h⟩
  · rename_i n e0 hd'
    obtain ⟨e, q1, q2, q3⟩ := isagg (fun hb => by
      rcases agg with hn | hn
      · rw [hd'] at hb
        cases z <;> first | (cases hb; done) | exact absurd rfl (hn _)
      · exact hn)
    exact ⟨e, q1, q2, by rw [q3]; exact h⟩
  · rename_i hn1 hn2
    split at h
    · exact h.elim
    · rename_i c r hz0
      split at h
      · refine ⟨.c c, fun w => ?_, hfl c (by rw [hz0]; simp), h⟩
        rw [hrun w]
        have hc := h2 β
        rw [hz0] at hc
        have hnagg : ∀ cs, z ≠ .agg cs := by
          intro cs hcs
          rw [hcs] at hshB
          unfold zshB at hshB
          simp only at hshB
          first
            | (cases hshB; done)
            | (split at hshB
               · rename_i hx; exact hn1 _ hx
               · rename_i hx; exact hn2 _ _ hx
               · cases hshB)
        have hzc : z.cells = #[z] := by cases z <;> first | rfl | exact absurd rfl (hnagg _)
        rw [hzc] at hc
        have : z = c.ren β := by simpa [renL] using hc
        rw [this]; rfl
      · exact h.elim

theorem retE_of {ok : Bool} {e : E} {r : C} {b : Bool} (hr : r.ren β = .bool b) {K : T → Prop} (h : retE ok e r K) : ∃ v : T, (if ok then Value.tuple #[e.ren β, .bool b] else e.ren β) = v.ren β ∧ (∀ n, e.bel n → r.bel n → v.bel n) ∧ K v := by
  cases ok with
  | true => exact ⟨.t [e, .c r], by simp [T.ren, E.ren, hr], fun n h1 h2 q hq => by
      rcases List.mem_cons.1 hq with rfl | hq
      · exact h1
      · rw [List.mem_singleton.1 hq]; exact h2, h⟩
  | false =>
    cases e with
    | c v => exact ⟨.c v, rfl, fun n h1 _ => h1, h⟩
    | a l => exact ⟨.a l, rfl, fun n h1 _ => h1, h⟩

theorem mapSh_of {d : Td} {K : Nat → Nat → Prop} (h : mapShK d K) {u : TypeDesc} (hsh : d.sh = shOf P u) : ∃ k e, u = .map k e ∧ K k e := by
  unfold mapShK at h
  split at h
  · rename_i k e hd
    exact ⟨k, e, shOf_map (hsh.symm.trans hd), h⟩
  · exact h.elim

theorem getObj_map {w : World} {b : Nat} {es : Array MapEntry} {c : Nat} (h : w.heap[b]? = some (.map es c)) : (getObj b).run P w = .ok (.map es c) w := by
  simp [getObj, Sem.run, h]
theorem getObj_iter {w : World} {b : Nat} {m : Option Nat} {c c' : Nat} {sn : Array Nat} (h : w.heap[b]? = some (.mapIter m c sn c')) : (getObj b).run P w = .ok (.mapIter m c sn c') w := by
  simp [getObj, Sem.run, h]

theorem E.bel_of_flat {e : E} (h : e.flat = true) (n : Nat) : e.bel n := by
  have hc : ∀ v : C, v.flat = true → v.bel n := by intro v hv; cases v <;> simp_all [C.flat, C.bel]
  cases e with
  | c v => exact hc v h
  | a l => exact fun v hv => hc v (List.all_eq_true.1 h v hv)

theorem map_bel (hr : Rel cx β s a w) {f x : Nat} {own k : Bool} {c n : Nat} {g : Nat → Nat × Key × E} (hg : get s.h f x = .map own k c n g) {i : Nat} (hi : i < n) : (g i).2.2.bel s.h.length := by
  have hwf := hr.wf.h f x
  rw [hg] at hwf
  have := hwf i hi
  cases k with
  | true => exact this
  | false => exact E.bel_of_flat this _

theorem look_of (hv : Valid tb P) (hr : Rel cx β s a w) {t : Nat} {m kc : C} {ok : Bool} {K : T → List Fam → Prop} (h : lookK tb s t m kc ok fun v => K v s.h) :
    Val P cx β s a w K (do pure (.value (← Instr.lookup t (m.ren β) (kc.ren β) ok))) := by
  obtain ⟨d, hd, h⟩ := td_of hv h
  obtain ⟨i, u, hi, hu, hs, _, hsh, _⟩ := Td.of_spec hd
  obtain ⟨kt, et, rfl, h⟩ := mapSh_of h hsh
  obtain ⟨kd, hkd, h⟩ := td_of hv h
  obtain ⟨i2, u2, hi2, hu2, hs2, _, hsh2, _⟩ := Td.of_spec hkd
  obtain ⟨key, hkey, hkind, h⟩ := keyOf_of (β := β) h hsh2
  obtain ⟨ed, hed, h⟩ := td_of hv h
  have fin : ∀ (e : E) (r : C) (b : Bool), r.ren β = .bool b → r.bel s.h.length → e.bel s.h.length → retE ok e r (fun v => K v s.h) →
      (Instr.lookup t (m.ren β) (kc.ren β) ok).run P w = .ok (if ok then .tuple #[e.ren β, .bool b] else e.ren β) w → Val P cx β s a w K (do pure (.value (← Instr.lookup t (m.ren β) (kc.ren β) ok))) := by
    intro e r b hrb hrbel hebel hret hrun
    obtain ⟨v, hv1, hv2, hv3⟩ := retE_of (β := β) hrb hret
    exact ⟨v, β, s.h, w, andVw (by rw [hrun, hv1]), hv3, hv2 _ hebel hrbel, hr, fun _ _ _ => rfl, Nat.le_refl _⟩
  cases m with
  | nilm =>
    obtain ⟨z, hz1, hz2, hz3⟩ := zeroE_of (β := β) hed h
    refine fin z .ff false rfl trivial (E.bel_of_flat hz2 _) hz3 ?_
    rw [hkey, show C.nilm.ren β = Value.map none from rfl]
    simp only [Instr.lookup, Sem.run_bind, run_underlying hu, Result.andThen_ok, Sem.run_pure]
    rw [checkKey_of hu2 hkind]
    simp only [Result.andThen_ok, Instr.findKey, Sem.run_bind, run_underlying hu2, Instr.findNow, Sem.run_pure, hz1]
  | mp f x =>
    have h := getK_of h
    have hh := hr.ft.ck f x
    split at h
    · rename_i own k c n g hg
      rw [hg] at hh
      obtain ⟨⟨es, hb, hent⟩, _⟩ := hh
      obtain ⟨hsk, hY, hN⟩ := h
      have base : ∀ (r : Option (Nat × Value)) (q : Value), (Instr.findKey kt key.ren es.toList).run P w = .ok r w →
          (match r with | some p => p.2 = q | none => (zeroValue et).run P w = .ok q w) →
          (Instr.lookup t ((C.mp f x).ren β) (kc.ren β) ok).run P w = .ok (if ok then .tuple #[q, .bool r.isSome] else q) w := by
        intro r q h1 h2
        rw [hkey, show (C.mp f x).ren β = Value.map (some (β f x).1) from rfl]
        simp only [Instr.lookup, Sem.run_bind, run_underlying hu, Result.andThen_ok, getObj_map hb, Sem.run_pure]
        rw [checkKey_of hu2 hkind]
        simp only [Result.andThen_ok, h1]
        cases r with
        | none =>
          simp only at h2
          simp only [Sem.run_bind, h2, Result.andThen_ok, Sem.run_pure]
          rfl
        | some p =>
          simp only at h2
          subst h2
          simp only [Sem.run_bind, Result.andThen_ok, Sem.run_pure]
          rfl
      rcases findKey_of hu2 hkind hent hsk with ⟨j, hj, hjk, hrun⟩ | ⟨hno, hrun⟩
      · exact fin (g j).2.2 .tt true rfl trivial (map_bel hr hg hj) (hY j hj hjk) (base _ _ (hrun w) rfl)
      · obtain ⟨z, hz1, hz2, hz3⟩ := zeroE_of (β := β) hed (hN hno)
        exact fin z .ff false rfl trivial (E.bel_of_flat hz2 _) hz3 (base none (z.ren β) (hrun w) (hz1 w))
    · exact h.elim
  | _ => exact h.elim
open Go.ChangeMaps (setBlock)
theorem setObj_map {w : World} {r : Nat} {es : Array MapEntry} {c : Nat} (hr : w.heap[r]? = some (.map es c)) (o' : Obj) : (setObj r o').run P w = .ok () (setBlock w r o') := by
  simp [setObj, Sem.run, hr, setBlock]
theorem setBlock_at {w : World} {r : Nat} {o o' : Obj} (hr : w.heap[r]? = some o) : (setBlock w r o').heap[r]? = some o' := by
  have hlt := (Array.getElem?_eq_some_iff.1 hr).1
  simp [setBlock, hlt]
theorem setBlock_ne {w : World} {r b : Nat} {o' : Obj} (h : b ≠ r) : (setBlock w r o').heap[b]? = w.heap[b]? := by
  simp [setBlock, Ne.symm h]
theorem setBlock_size (w : World) (r : Nat) (o' : Obj) : (setBlock w r o').heap.size = w.heap.size := by simp [setBlock]

theorem toE_of {v : T} {K : E → Prop} (h : v.toEK K) : ∃ e : E, v.ren β = e.ren β ∧ (∀ n, v.bel n → e.bel n) ∧ K e := by
  cases v with
  | c x => exact ⟨.c x, rfl, fun n h => h, h⟩
  | a l => exact ⟨.a l, rfl, fun n h => h, h⟩
  | t l => exact h.elim

theorem stays_of (key : Key) (w : World) : (Instr.keyThatStays key.ren key.ren).run P w = .ok key.ren w := by
  cases key <;> simp [Instr.keyThatStays, Instr.sameBits, Key.ren, ba_beq]

theorem bel_sel {k : Bool} {e : E} {n : Nat} : (match k with | true => e.bel n | false => e.flat = true) ↔ ((k = true → e.bel n) ∧ (k = false → e.flat = true)) := by
  cases k with
  | true => exact ⟨fun h => ⟨fun _ => h, fun h => by cases h⟩, fun h => h.1 rfl⟩
  | false => exact ⟨fun h => ⟨(fun h => by cases h), fun _ => h⟩, fun h => h.2 rfl⟩

theorem mapSet_of (hv : Valid tb P) (hr : Rel cx β s a w) {t : Nat} {m kc : C} {v : T} (hvb : v.bel s.h.length) {K : List Fam → Prop} (h : mapSetK tb s.h t m kc v K) :
    ∃ h' w', (Instr.mapUpdate t (m.ren β) (kc.ren β) (v.ren β)).run P w = .ok () w' ∧ K h' ∧ Rel cx β ⟨s.t, h'⟩ a w' ∧ h'.length = s.h.length := by
  obtain ⟨d, hd, h⟩ := td_of hv h
  obtain ⟨i, u, hi, hu, hs, _, hsh, _⟩ := Td.of_spec hd
  obtain ⟨kt, et, rfl, h⟩ := mapSh_of h hsh
  obtain ⟨kd, hkd, h⟩ := td_of hv h
  obtain ⟨i2, u2, hi2, hu2, hs2, _, hsh2, _⟩ := Td.of_spec hkd
  obtain ⟨key, hkey, hkind, h⟩ := keyOf_of (β := β) h hsh2
  obtain ⟨e, he, heb, h⟩ := toE_of (β := β) h
  have heb := heb _ hvb
  rw [hkey, he]
  cases m with
  | mp f x =>
    have h := getK_of h
    have hh := hr.ft.ck f x
    have hwf := hr.wf.h f x
    split at h
    · rename_i own k c n g hg
      cases own with
      | false => exact h.elim
      | true =>
      rw [hg] at hh hwf
      obtain ⟨⟨es, hb, hent⟩, hborn, hpair, hflat⟩ := hh
      have hfe : (k = false → e.flat = true) ∧ findK n g key (fun i => updK s.h f x (.map true k c n (fun j => if j = i then ((g i).1, key, e) else g j)) K) (updK s.h f x (.map true k (c + 1) (n + 1) (fun j => if j = n then (c, key, e) else g j)) K) := by
        cases k with
        | true => exact ⟨(fun h => by cases h), h⟩
        | false => exact ⟨fun _ => (ifB_of h).1, (ifB_of h).2⟩
      obtain ⟨hfe, hsk, hY, hN⟩ := hfe
      have base : ∀ r, (Instr.findKey kt key.ren es.toList).run P w = .ok r w → (Instr.mapUpdate t ((C.mp f x).ren β) key.ren (e.ren β)).run P w =
          (match r with
            | some (i, _) => (do
              let key' ← Instr.keyThatStays (((es[i]?).map (fun q : MapEntry => q.key)).getD key.ren) key.ren
              setObj (β f x).1 (.map (es.modify i fun q => { q with key := key', val := e.ren β }) c) : Sem Unit)
            | none => setObj (β f x).1 (.map (es.push { key := key.ren, val := e.ren β, born := c }) (c + 1))).run P w := by
        intro r h1
        rw [show (C.mp f x).ren β = Value.map (some (β f x).1) from rfl]
        simp only [Instr.mapUpdate, Sem.run_bind, run_underlying hu, Result.andThen_ok, getObj_map hb]
        rw [checkKey_of hu2 hkind]
        simp only [Result.andThen_ok, h1]
        cases r <;> rfl
      rcases findKey_of hu2 hkind hent hsk with ⟨j, hj, hjk, hrun⟩ | ⟨hno, hrun⟩
      · obtain ⟨h', hK, hlen, h1, h2⟩ := updK_of (hY j hj hjk)
        refine ⟨h', setBlock w (β f x).1 (.map (es.modify j fun q => { q with key := key.ren, val := e.ren β }) c), ?_, hK, ?_, hlen⟩
        · rw [base _ (hrun w)]
          have hold : ((es[j]?).map (fun q : MapEntry => q.key)).getD key.ren = key.ren := by rw [hent.2 j hj, hjk]; rfl
          simp only [hold, Sem.run_bind, stays_of, Result.andThen_ok]
          exact setObj_map hb _
        · refine hr.write (f := f) (x := x) (by rw [hg]; rfl) rfl hlen h1 h2 ?_ ?_ rfl rfl rfl (setBlock_size _ _ _) (fun b hb' => setBlock_ne hb')
          · refine ⟨⟨_, setBlock_at hb, by simp [hent.1], fun i hi => ?_⟩, fun i hi => ?_, fun i i' hii hi' => ?_, fun hk i hi => ?_⟩ <;> dsimp only
            · rw [Array.getElem?_modify]
              by_cases hij : i = j
              · subst hij
                rw [if_pos rfl, if_pos rfl, hent.2 i hi]
                rfl
              · rw [if_neg (Ne.symm hij), if_neg hij]
                exact hent.2 i hi
            · by_cases hij : i = j
              · subst hij; rw [if_pos rfl]; exact hborn i hi
              · rw [if_neg hij]; exact hborn i hi
            · have hp := hpair i i' hii hi'
              have e1 : ∀ q : Nat, (if q = j then ((g j).1, key, e) else g q).1 = (g q).1 ∧ (if q = j then ((g j).1, key, e) else g q).2.1 = (g q).2.1 := by
                intro q
                by_cases hq : q = j
                · subst hq; rw [if_pos rfl]; exact ⟨rfl, hjk.symm⟩
                · rw [if_neg hq]; exact ⟨rfl, rfl⟩
              rw [(e1 i).1, (e1 i').1, (e1 i).2, (e1 i').2]
              exact hp
            · by_cases hij : i = j
              · rw [if_pos hij]; exact hfe hk
              · rw [if_neg hij]; exact hflat hk i hi
          · intro i hi
            by_cases hij : i = j
            · simp only [if_pos hij]; exact bel_sel.2 ⟨fun _ => heb, hfe⟩
            · simp only [if_neg hij]; exact hwf i hi
      · obtain ⟨h', hK, hlen, h1, h2⟩ := updK_of (hN hno)
        refine ⟨h', setBlock w (β f x).1 (.map (es.push { key := key.ren, val := e.ren β, born := c }) (c + 1)), ?_, hK, ?_, hlen⟩
        · rw [base _ (hrun w)]
          exact setObj_map hb _
        · refine hr.write (f := f) (x := x) (by rw [hg]; rfl) rfl hlen h1 h2 ?_ ?_ rfl rfl rfl (setBlock_size _ _ _) (fun b hb' => setBlock_ne hb')
          · refine ⟨⟨_, setBlock_at hb, by simp [hent.1], fun i hi => ?_⟩, fun i hi => ?_, fun i i' hii hi' => ?_, fun hk i hi => ?_⟩ <;> dsimp only
            · rw [Array.getElem?_push, hent.1]
              by_cases hij : i = n
              · subst hij; rw [if_pos rfl, if_pos rfl]
              · rw [if_neg hij, if_neg hij]; exact hent.2 i (by omega)
            · by_cases hij : i = n
              · subst hij; rw [if_pos rfl]; exact Nat.lt_succ_self _
              · rw [if_neg hij]; have := hborn i (by omega); omega
            · by_cases hij : i' = n
              · rw [if_neg (show ¬ i = n by omega), if_pos hij]
                exact ⟨hborn i (by omega), hno i (by omega)⟩
              · rw [if_neg (show ¬ i = n by omega), if_neg hij]
                exact hpair i i' hii (by omega)
            · by_cases hij : i = n
              · rw [if_pos hij]; exact hfe hk
              · rw [if_neg hij]; exact hflat hk i (by omega)
          · intro i hi
            by_cases hij : i = n
            · simp only [if_pos hij]; exact bel_sel.2 ⟨fun _ => heb, hfe⟩
            · simp only [if_neg hij]; exact hwf i (by omega)
    · exact h.elim
  | _ => exact h.elim

theorem setBlock_same {w : World} {r : Nat} {o : Obj} (hr : w.heap[r]? = some o) : setBlock w r o = w := by
  have : w.heap.setIfInBounds r o = w.heap := by
    apply Array.ext_getElem?
    intro i
    rw [Array.getElem?_setIfInBounds]
    by_cases h : r = i
    · subst h
      rw [if_pos rfl, if_pos (Array.getElem?_eq_some_iff.1 hr).1, hr]
    · rw [if_neg h]
  unfold setBlock
  rw [this]

theorem mapDel_of (hv : Valid tb P) (hr : Rel cx β s a w) {t : Nat} {ts : List Nat} {ty : Nat} {m kc : C} {K : T → List Fam → Prop} (h : mapDelK tb s.h t m kc K) :
    Val P cx β s a w K (do pure (.value (← Builtin.delete_ (t :: ts).toArray ty #[m.ren β, kc.ren β]))) := by
  obtain ⟨d, hd, h⟩ := td_of hv h
  obtain ⟨i, u, hi, hu, hs, _, hsh, _⟩ := Td.of_spec hd
  obtain ⟨kt, et, rfl, h⟩ := mapSh_of h hsh
  obtain ⟨kd, hkd, h⟩ := td_of hv h
  obtain ⟨i2, u2, hi2, hu2, hs2, _, hsh2, _⟩ := Td.of_spec hkd
  obtain ⟨key, hkey, hkind, h⟩ := keyOf_of (β := β) h hsh2
  rw [hkey]
  cases m with
  | nilm =>
    refine ⟨.t [], β, s.h, w, andVw (?_ : Sem.run P (Builtin.delete_ (t :: ts).toArray ty #[C.nilm.ren β, key.ren]) w = .ok (.tuple #[]) w), h, by simp [T.bel], hr, fun _ _ _ => rfl, Nat.le_refl _⟩
    rw [show C.nilm.ren β = Value.map none from rfl]
    simp only [Builtin.delete_, List.getElem?_toArray, List.getElem?_cons_zero, Sem.run_bind, run_underlying hu, Result.andThen_ok]
    simp only [List.size_toArray, List.length_cons, List.length_nil, List.getElem?_toArray, List.getElem?_cons_zero, List.getElem?_cons_succ, Sem.run_bind, run_underlying hu, Result.andThen_ok]
    rw [checkKey_of hu2 hkind]
    rfl
  | mp f x =>
    have h := getK_of h
    have hh := hr.ft.ck f x
    have hwf := hr.wf.h f x
    split at h
    · rename_i own k c n g hg
      cases own with
      | false => exact h.elim
      | true =>
      rw [hg] at hh hwf
      obtain ⟨⟨es, hb, hent⟩, hborn, hpair, hflat⟩ := hh
      obtain ⟨hsk, hY, hN⟩ := h
      have base : ∀ r, (Instr.findKey kt key.ren es.toList).run P w = .ok r w → (Builtin.delete_ (t :: ts).toArray ty #[(C.mp f x).ren β, key.ren]).run P w =
          .ok (.tuple #[]) (setBlock w (β f x).1 (match r with | some (i, _) => .map (es.eraseIdxIfInBounds i) c | none => .map es c)) := by
        intro r h1
        rw [show (C.mp f x).ren β = Value.map (some (β f x).1) from rfl]
        simp only [Builtin.delete_, List.getElem?_toArray, List.getElem?_cons_zero, Sem.run_bind, run_underlying hu, Result.andThen_ok]
        simp only [List.size_toArray, List.length_cons, List.length_nil, List.getElem?_toArray, List.getElem?_cons_zero, List.getElem?_cons_succ, Sem.run_bind, run_underlying hu, Result.andThen_ok, getObj_map hb]
        rw [checkKey_of hu2 hkind]
        simp only [Result.andThen_ok, h1]
        cases r with
        | none => simp only [Sem.run_bind, setObj_map hb, Result.andThen_ok, Sem.run_pure]
        | some p => simp only [Sem.run_bind, setObj_map hb, Result.andThen_ok, Sem.run_pure]
      rcases findKey_of hu2 hkind hent hsk with ⟨j, hj, hjk, hrun⟩ | ⟨hno, hrun⟩
      · obtain ⟨h', hK, hlen, h1, h2⟩ := updK_of (hY j hj hjk)
        refine ⟨.t [], β, h', _, andVw (by exact base _ (hrun w)), hK, by simp [T.bel], ?_, fun _ _ _ => rfl, by omega⟩
        have hel : ∀ i, i < n - 1 → (es.eraseIdxIfInBounds j)[i]? = if i < j then es[i]? else es[i + 1]? := by
          intro i hi
          rw [← Array.getElem?_toList, Array.toList_eraseIdxIfInBounds, List.getElem?_eraseIdx]
          split <;> rw [Array.getElem?_toList]
        refine hr.write (f := f) (x := x) (by rw [hg]; rfl) rfl hlen h1 h2 ?_ ?_ rfl rfl rfl (setBlock_size _ _ _) (fun b hb' => setBlock_ne hb')
        · refine ⟨⟨_, setBlock_at hb, ?_, fun i hi => ?_⟩, fun i hi => ?_, fun i i' hii hi' => ?_, fun hk i hi => ?_⟩ <;> (try dsimp only)
          · rw [← Array.length_toList, Array.toList_eraseIdxIfInBounds, List.length_eraseIdx_of_lt (by rw [Array.length_toList, hent.1]; exact hj), Array.length_toList, hent.1]
          · rw [hel i hi]
            by_cases hij : i < j
            · rw [if_pos hij, if_pos hij]; exact hent.2 i (by omega)
            · rw [if_neg hij, if_neg hij]; exact hent.2 (i + 1) (by omega)
          · by_cases hij : i < j
            · rw [if_pos hij]; exact hborn i (by omega)
            · rw [if_neg hij]; exact hborn (i + 1) (by omega)
          · by_cases h1 : i < j <;> by_cases h2 : i' < j
            · rw [if_pos h1, if_pos h2]; exact hpair i i' hii (by omega)
            · rw [if_pos h1, if_neg h2]; exact hpair i (i' + 1) (by omega) (by omega)
            · omega
            · rw [if_neg h1, if_neg h2]; exact hpair (i + 1) (i' + 1) (by omega) (by omega)
          · by_cases hij : i < j
            · rw [if_pos hij]; exact hflat hk i (by omega)
            · rw [if_neg hij]; exact hflat hk (i + 1) (by omega)
        · intro i hi
          by_cases hij : i < j
          · simp only [if_pos hij]; exact hwf i (by omega)
          · simp only [if_neg hij]; exact hwf (i + 1) (by omega)
      · refine ⟨.t [], β, s.h, w, andVw ?_, hN hno, by simp [T.bel], hr, fun _ _ _ => rfl, Nat.le_refl _⟩
        have := base _ (hrun w)
        rw [setBlock_same hb] at this
        exact this
    · exact h.elim
  | _ => exact h.elim

theorem range_of (hv : Valid tb P) (hr : Rel cx β s a w) {t : Nat} {m : C} {K : T → List Fam → Prop} (h : rangeK tb s.h t m K) :
    Val P cx β s a w K (do pure (.value (← Instr.range t (m.ren β)))) := by
  obtain ⟨d, hd, h⟩ := td_of hv h
  obtain ⟨i, u, hi, hu, hs, _, hsh, _⟩ := Td.of_spec hd
  obtain ⟨kt, et, rfl, h⟩ := mapSh_of h hsh
  cases m with
  | mp f x =>
    have h := getK_of h
    have hh := hr.ft.ck f x
    split at h
    · rename_i own k c n g hg
      rw [hg] at hh
      obtain ⟨⟨es, hb, hent⟩, _⟩ := hh
      have h := addK_of h
      have hlt : f < s.h.length := get_lt (by rw [hg]; intro e; cases e)
      refine ⟨_, _, _, _, andVw ?_, h, ?_, hr.alloc (ck := .iter f x c []) (o := .mapIter (some (β f x).1) c #[] c) ⟨rfl, ?_⟩ hlt, bind_agree _ _ _, by simp⟩
      · simp only [T.ren]
        rw [p_new]
        rw [show (C.mp f x).ren β = Value.map (some (β f x).1) from rfl]
        have hnew : (newObj (.mapIter (some (β f x).1) c #[] c)).run P w = .ok w.heap.size (w.alloc (.mapIter (some (β f x).1) c #[] c)) := by simp [newObj, Sem.run]
        simp only [Instr.range, Sem.run_bind, run_underlying hu, Result.andThen_ok, getObj_map hb, Sem.run_pure, hnew]
      · simp [T.bel, C.bel]
      · exact heap_alloc_new w _
    · exact h.elim
  | _ => exact h.elim

theorem makeMap_of (hv : Valid tb P) (hr : Rel cx β s a w) {t : Nat} {r : Option C} {K : T → List Fam → Prop} (h : makeMapK tb s.h t r K) :
    Val P cx β s a w K (do pure (.value (← Instr.makeMap t (r.map (C.ren β))))) := by
  obtain ⟨d, hd, h⟩ := td_of hv h
  obtain ⟨i, u, hi, hu, hs, _, hsh, _⟩ := Td.of_spec hd
  obtain ⟨kt, et, rfl, h⟩ := mapSh_of h hsh
  obtain ⟨ed, hed, h⟩ := td_of hv h
  have main : addK s.h (.map true (!flatShB tb ed.sh) 0 0 (fun _ => (0, .i 0, .c .nilp))) (fun n h' => K (.c (.mp n 0)) h') →
      (Instr.makeMap t (r.map (C.ren β))).run P w = .ok (.map (some w.heap.size)) (w.alloc (.map #[] 0)) → Val P cx β s a w K (do pure (.value (← Instr.makeMap t (r.map (C.ren β))))) := by
    intro h hrun
    have h := addK_of h
    refine ⟨_, _, _, _, andVw ?_, h, ?_, hr.alloc (ck := .map true (!flatShB tb ed.sh) 0 0 (fun _ => (0, .i 0, .c .nilp))) (o := .map #[] 0) ⟨⟨#[], heap_alloc_new w _, rfl, fun i hi => by omega⟩, fun i hi => by omega, fun i j _ hj => by omega, fun _ i hi => by omega⟩ (fun i hi => by omega), bind_agree _ _ _, by simp⟩
    · rw [hrun]
      simp [T.ren, C.ren, bind_new]
    · simp [T.bel, C.bel]
  cases r with
  | none =>
    refine main h ?_
    simp [Instr.makeMap, newObj, Sem.run]
  | some c =>
    cases c with
    | i k n =>
      refine main h ?_
      simp [Instr.makeMap, newObj, Sem.run, run_underlying hu, C.ren, asInt, asIntOf]
    | _ => exact h.elim

theorem Rel.drew' (hr : Rel cx β s a w) : Rel cx β s a w.drew := by
  refine ⟨hr.dfr, hr.sz, hr.tm, ⟨fun f x => Ck.holds_block (hr.ft.ck f x) rfl, hr.ft.sep⟩, hr.wf, hr.ml, hr.pin, hr.os, hr.tape, hr.out, hr.hs, hr.fr, hr.ow, hr.kn⟩

theorem next_of (hr : Rel cx β s a w) {it : C} {ty : TypeId} {K : T → List Fam → Prop} (h : nextK s.h it K) :
    Val P cx β s a w K (do pure (.value (← Instr.next (it.ren β) false ty))) := by
  cases it with
  | p f x o =>
    cases o with
    | succ o => exact h.elim
    | zero =>
    have h := getK_of h
    have hh := hr.ft.ck f x
    have hwf := hr.wf.h f x
    split at h
    · rename_i m y c seen hg
      rw [hg] at hh hwf
      obtain ⟨ho, hb⟩ := hh
      have h := getK_of h
      have hm := hr.ft.ck m y
      split at h
      · rename_i own k c' n g hg2
        obtain ⟨hcc, hY, hN⟩ := h
        subst hcc
        rw [hg2] at hm
        obtain ⟨⟨es, hbm, hent⟩, hborn, hpair, hflat⟩ := hm
        have hget : ∀ e ∈ es.toList, ∃ i, i < n ∧ e = ⟨(g i).2.1.ren, (g i).2.2.ren β, (g i).1⟩ := by
          intro e he
          obtain ⟨i, hi⟩ := List.getElem?_of_mem he
          rw [Array.getElem?_toList] at hi
          have hin : i < n := by have := (Array.getElem?_eq_some_iff.1 hi).1; have := hent.1; omega
          rw [hent.2 i hin] at hi
          cases hi
          exact ⟨i, hin, rfl⟩
        have hit : (C.p f x 0).ren β = .pointer (some ⟨(β f x).1, 0, none⟩) := by
          simp [C.ren, place, ho]
        rw [hit]
        have hleft : ∀ e, e ∈ (leftOf es seen.toArray).toList → ∃ i, i < n ∧ e = ⟨(g i).2.1.ren, (g i).2.2.ren β, (g i).1⟩ ∧ (g i).1 ∉ seen := by
          intro e he
          unfold leftOf at he
          rw [Array.toList_filter, List.mem_filter] at he
          obtain ⟨i, hi, rfl⟩ := hget e he.1
          exact ⟨i, hi, rfl, by simpa using he.2⟩
        rcases run_next_at (P := P) w ty (β f x).1 (β m y).1 c' c' seen.toArray es c' hb hbm (fun e he => by obtain ⟨i, hi, rfl⟩ := hget e he; exact hborn i hi) (Nat.le_refl _) with ⟨h0, hrun⟩ | ⟨e, he, w1, hw1, hrun⟩
        · refine ⟨.t [.c .ff], β, s.h, w, andVw hrun, hN (fun i hi => ?_), (by intro q hq; rw [List.mem_singleton.1 hq]; trivial), hr, fun _ _ _ => rfl, Nat.le_refl _⟩
          by_cases hin : (g i).1 ∈ seen
          · exact hin
          · exfalso
            have hmem : (⟨(g i).2.1.ren, (g i).2.2.ren β, (g i).1⟩ : MapEntry) ∈ (leftOf es seen.toArray).toList := by
              unfold leftOf
              rw [Array.toList_filter, List.mem_filter]
              exact ⟨List.mem_of_getElem? (i := i) (by rw [Array.getElem?_toList]; exact hent.2 i hi), by simpa using hin⟩
            have := List.length_pos_of_mem hmem
            rw [Array.length_toList] at this
            omega
        · obtain ⟨i, hi, rfl, hin⟩ := hleft e he
          obtain ⟨h', hK, hlen, h1, h2⟩ := updK_of (hY i hi hin)
          have hr1 : Rel cx β s a w1 := by rcases hw1 with rfl | rfl; exact hr; exact hr.drew'
          have hb1 : w1.heap[(β f x).1]? = some (.mapIter (some (β m y).1) c' seen.toArray c') := by rcases hw1 with rfl | rfl <;> exact hb
          refine ⟨.t [.c .tt, .c (g i).2.1.c, (g i).2.2], β, h', setBlock w1 (β f x).1 (.mapIter (some (β m y).1) c' (seen.toArray.push (g i).1) c'), andVw ?_, hK, ?_, ?_, fun _ _ _ => rfl, by omega⟩
          rotate_left
          · have hkb : (g i).2.1.c.bel h'.length := by cases (g i).2.1 <;> trivial
            have hvb := map_bel hr hg2 hi
            rw [hlen]
            rw [hlen] at hkb
            intro q hq
            rcases List.mem_cons.1 hq with rfl | hq
            · trivial
            · rcases List.mem_cons.1 hq with rfl | hq
              · exact hkb
              · rw [List.mem_singleton.1 hq]; exact hvb
          rotate_left
          · rw [hrun]
            have hkc : (g i).2.1.c.ren β = (g i).2.1.ren := by cases (g i).2.1 <;> rfl
            have e2 : (T.t [.c .tt, .c (g i).2.1.c, (g i).2.2]).ren β = .tuple #[.bool true, (g i).2.1.ren, (g i).2.2.ren β] := by
              simp only [T.ren, List.map_cons, List.map_nil, E.ren, hkc]
              rfl
            rw [e2]
          · refine hr1.write (f := f) (x := x) (by rw [hg]; rfl) rfl hlen h1 h2 ⟨ho, ?_⟩ hwf rfl rfl rfl (setBlock_size _ _ _) (fun b hb' => setBlock_ne hb')
            rw [setBlock_at hb1]
            simp
      · exact h.elim
    · exact h.elim
  | _ => exact h.elim
end Go.X

set_option linter.constructorNameAsVariable false
set_option linter.unusedVariables false
namespace Go.X
variable {cx : Cx} {β : Nm} {s : S} {a : Act} {w : World} {P : Program} {tb : Tb}

theorem pure_val (hv : Valid tb P) (hr : Rel cx β s a w) {o : Oper} {K : T → List Fam → Prop} (h : xpure tb s o.op fun v => K v s.h) : Val P cx β s a w K (execOp a.eval o) := by
  obtain ⟨v, hrun, hb, hk⟩ := xpure_of hv hr.tm hr.ft (xpure_wf (K' := fun v => v.bel s.h.length ∧ K v s.h) hr.wf (fun v hv hk => ⟨hv, hk⟩) h)
  exact ⟨v, β, s.h, w, hrun w (fun f x _ => hr.ft.ck f x), hk, hb, hr, fun _ _ _ => rfl, Nat.le_refl _⟩

theorem reps_get' {n z : Nat} {l : List C} (hz : l.length = z) {i j : Nat} (hi : i < n) (hj : j < z) : (reps n l)[i * z + j]? = l[j]? := by
  subst hz
  have h1 : (i + 1) * l.length ≤ n * l.length := Nat.mul_le_mul_right _ hi
  rw [Nat.add_mul] at h1
  rw [reps_get (by omega) _ (by omega), Nat.mul_comm, Nat.mul_add_mod, Nat.mod_eq_of_lt hj]

theorem clear_of (hv : Valid tb P) (hr : Rel cx β s a w) {t ty e : Nat} (hu : P.underlying t = some (.slice e)) {d : Td} (hd : Td.of P e = some d) {v : C} {K : T → List Fam → Prop} (h : clearK d s.h v K) :
    Val P cx β s a w K (do pure (.value (← Builtin.clear_ #[t] ty #[v.ren β]))) := by
  obtain ⟨hz, hA⟩ := ifB_of h
  obtain ⟨z, hz1, hz2, hzl, i, hi, hzero⟩ := zero_of (β := β) (w := w) hd hz
  cases v with
  | nils =>
    refine ⟨.t [], β, _, w, andVw (?_ : Sem.run P (Builtin.clear_ #[t] ty #[C.nils.ren β]) w = .ok (.tuple #[]) w), hA, by simp [T.bel], hr, fun _ _ _ => rfl, Nat.le_refl _⟩
    simp [Builtin.clear_, run_underlying hu, C.ren]
  | sl f x z' o n c =>
    have hB := getK_of hA
    have hc := hr.ft.ck f x
    have hwf := hr.wf.h f x
    split at hB
    case h_2 => exact hB.elim
    rename_i k e' zz n' c' fr hg
    rw [hg] at hc hwf
    obtain ⟨⟨hz3, hz4, hon⟩, hU⟩ := hB
    subst hz3 hz4
    obtain ⟨h1, hK, hlen, hnew, hsame⟩ := updK_of hU
    obtain ⟨hnc, hnil, hkf, hlz, hblk⟩ := hc
    have hlz' : ∀ i, i < n' → (clrF o n d.zero fr i).length = d.size := by
      intro i hi
      unfold clrF
      by_cases hin : o ≤ i ∧ i < o + n
      · rw [if_pos hin]; exact hzl
      · rw [if_neg hin]; exact hlz i hi
    have hflat : k = false → ∀ i, i < n' → ∀ v ∈ clrF o n d.zero fr i, v.flat = true := by
      intro hk i hi v hv
      unfold clrF at hv
      by_cases hin : o ≤ i ∧ i < o + n
      · rw [if_pos hin] at hv; exact zero_flat' hd v hv
      · rw [if_neg hin] at hv; exact hkf hk i hi v hv
    have hbel : (Ck.row true k e' d.size n' c' (clrF o n d.zero fr)).bel s.h.length := by
      intro i hi v hv
      unfold clrF at hv
      by_cases hin : o ≤ i ∧ i < o + n
      · rw [if_pos hin] at hv; exact zero_flat hd _ v hv
      · rw [if_neg hin] at hv; exact hwf i hi v hv
    by_cases hc0 : c' = 0
    · -- nothing there
      have hn0 : n = 0 := by omega
      have hn0' : n' = 0 := by omega
      have hrel : Rel cx β ⟨s.t, h1⟩ a w := by
        have hag : Agree s.h.length β β := fun _ _ _ => rfl
        have hget : ∀ g y, get h1 g y = get s.h g y ∨ ((g, y) = (f, x) ∧ get h1 g y = .row true k e' d.size n' c' (clrF o n d.zero fr)) := by
          intro g y
          by_cases he : (g, y) = (f, x)
          · exact .inr ⟨he, by cases he; exact hnew⟩
          · exact .inl (hsame g y he)
        have hun : (Ck.row true k e' d.size n' c' (clrF o n d.zero fr)).known = false := by rw [hc0]; rfl
        have huo : (Ck.row true k e' d.size n' c' (clrF o n d.zero fr)).owned = false := by rw [hc0]; rfl
        refine hr.step (by omega) hag ?_ ?_ rfl rfl rfl (Nat.le_refl _) (fun b hb _ => rfl) ?_ ?_
        · refine hr.ft.one f x s.h.length hag ?_ ?_
          · rw [hnew]; exact ⟨hnc, hnil, hflat, hlz', fun h => absurd hc0 h⟩
          · intro g y hne
            right
            refine ⟨hsame g y hne, rfl, hr.wf.h g y, fun hk => ⟨rfl, fun hkn => ?_⟩⟩
            rw [hnew, hun] at hkn; cases hkn
        · intro g y
          rw [hlen]
          rcases hget g y with q | ⟨_, q⟩
          · rw [q]; exact hr.wf.h g y
          · rw [q]; exact hbel
        · intro g y ho
          rcases hget g y with q | ⟨_, q⟩
          · rw [q] at ho; exact .inl ⟨g, y, ho, rfl⟩
          · rw [q, huo] at ho; cases ho
        · intro g y ho
          rcases hget g y with q | ⟨_, q⟩
          · rw [q] at ho; exact .inl ⟨g, y, ho, rfl⟩
          · rw [q, hun] at ho; cases ho
      refine ⟨.t [], β, h1, w, andVw (?_ : Sem.run P (Builtin.clear_ #[t] ty #[(C.sl f x d.size o n c).ren β]) w = .ok (.tuple #[]) w), hK, by simp [T.bel], hrel, fun _ _ _ => rfl, by omega⟩
      rw [sl_adr, hn0]
      cases adr β f x d.size o <;> simp [Builtin.clear_, run_underlying hu]
    · have hfl : (β f x).2.2 = .live := by
        exact Fl.live_of fun hb => by exact absurd (hnil hb) hc0
      obtain ⟨cur, te, fz, hb, hcc, how⟩ := hblk hc0
      obtain ⟨h0, rfl, rfl, hcm, hcs⟩ := how rfl
      have hle : (o + n) * d.size ≤ c' * d.size := Nat.mul_le_mul_right _ (by omega)
      rw [Nat.add_mul] at hle
      have hrl : ((reps n d.zero).map (C.ren β)).length = n * d.size := by rw [List.length_map, reps_len, hzl]
      have hst := run_storeCells_at P (β f x).1 (o * d.size) te ((reps n d.zero).map (C.ren β)) 0 cur w hb (by rw [hrl]; omega) (by
        intro u hu
        obtain ⟨c, _, rfl⟩ := List.mem_map.1 hu
        exact c.ren_one)
      have hfit : o * d.size + ((reps n d.zero).map (C.ren β)).length ≤ cur.toList.length := by rw [hrl, Array.length_toList]; omega
      have hrel : Rel cx β ⟨s.t, h1⟩ a (w.setRow (β f x).1 (cur.toList.take (o * d.size + 0) ++ (reps n d.zero).map (C.ren β) ++ cur.toList.drop (o * d.size + 0 + ((reps n d.zero).map (C.ren β)).length)).toArray) := by
        refine hr.write (f := f) (x := x) (by rw [hg]; exact row_owned hc0) (row_owned hc0) hlen hnew hsame ⟨hnc, hnil, hflat, hlz', fun _ => ⟨_, te, (0, 0), setRow_heap w _ cur _ te _ hb, fun i hi j v hj => ?_, fun _ => ⟨h0, rfl, rfl, hcm, ?_⟩⟩⟩ hbel rfl rfl rfl (by simp [World.setRow]) (fun b hb' => setRow_other w _ b _ hb')
        · have hjz : j < d.size := by have := (List.getElem?_eq_some_iff.1 hj).1; rw [hlz' i hi] at this; exact this
          rw [h0, Nat.zero_add]
          simp only [List.getElem?_toArray, Nat.add_zero]
          rw [lay_get hfit, hrl]
          unfold clrF at hj
          by_cases hin : o ≤ i ∧ i < o + n
          · rw [if_pos hin] at hj
            have e3 : i * d.size = o * d.size + (i - o) * d.size := by rw [← Nat.add_mul]; congr 1; omega
            have h5 : ((i - o) + 1) * d.size ≤ n * d.size := Nat.mul_le_mul_right _ (by omega)
            rw [Nat.add_mul] at h5
            rw [if_pos (by omega), show i * d.size + j - o * d.size = (i - o) * d.size + j from by omega, List.getElem?_map, reps_get' hzl (by omega) hjz, hj]
            rfl
          · rw [if_neg hin] at hj
            have : ¬ (o * d.size ≤ i * d.size + j ∧ i * d.size + j < o * d.size + n * d.size) := by
              by_cases h1 : i < o
              · have h5 : (i + 1) * d.size ≤ o * d.size := Nat.mul_le_mul_right _ h1
                rw [Nat.add_mul] at h5
                omega
              · have h5 : (o + n) * d.size ≤ i * d.size := Nat.mul_le_mul_right _ (by omega)
                rw [Nat.add_mul] at h5
                omega
            rw [if_neg this, Array.getElem?_toList]
            have := hcc i hi j v hj
            rw [h0, Nat.zero_add] at this
            exact this
        · simp only [List.size_toArray, List.length_append, List.length_take, List.length_drop, Array.length_toList, Nat.add_zero] at hfit ⊢
          omega
      refine ⟨.t [], β, h1, _, andVw (?_ : Sem.run P (Builtin.clear_ #[t] ty #[(C.sl f x d.size o n c).ren β]) w = .ok (.tuple #[]) _), hK, by simp [T.bel], hrel, fun _ _ _ => rfl, by omega⟩
      have e1 : (C.sl f x d.size o n c).ren β = .slice (some ⟨(β f x).1, o * d.size, none⟩) n c := by rw [sl_adr]; simp [adr, place, h0, hfl]
      rw [e1]
      by_cases hn0 : n = 0
      · subst hn0
        have e2 : w.setRow (β f x).1 (cur.toList.take (o * d.size + 0) ++ (reps 0 d.zero).map (C.ren β) ++ cur.toList.drop (o * d.size + 0 + ((reps 0 d.zero).map (C.ren β)).length)).toArray = w := by
          have : (cur.toList.take (o * d.size + 0) ++ (reps 0 d.zero).map (C.ren β) ++ cur.toList.drop (o * d.size + 0 + ((reps 0 d.zero).map (C.ren β)).length)).toArray = cur := by simp [reps]
          rw [this]
          exact setRow_self w _ cur te (0, 0) hb
        rw [e2]
        simp [Builtin.clear_, run_underlying hu]
      · obtain ⟨n0, rfl⟩ := Nat.exists_eq_succ_of_ne_zero hn0
        have e3 : (Builtin.zeroCells z.cells (n0 + 1)).toList = (reps (n0 + 1) d.zero).map (C.ren β) := by
          have := zeros_eq (β := β) (n := n0 + 1) (l := d.zero)
          unfold Builtin.zeroCells
          rw [hz2]
          have e4 : (renL β d.zero).size = d.zero.length := by simp [renL]
          rw [e4]
          rw [e4] at this
          rw [this]
          rfl
        simp only [Builtin.clear_, List.getElem?_toArray, List.getElem?_cons_zero, Sem.run_bind, run_underlying hu, Result.andThen_ok, hz1, e3, hst, Sem.run_pure]
  | _ => exact hA.elim

theorem xval_of (hv : Valid tb P) (hr : Rel cx β s a w) {o : Oper} {K : T → List Fam → Prop} (h : xval tb s o.op K) : Val P cx β s a w K (execOp a.eval o) := by
  obtain ⟨t0, h0⟩ := s
  obtain ⟨dst, op, ty, pos, after, guard⟩ := o
  cases op with
  | box t x => exact box_of hv hr h
  | alloc t => exact alloc_of hv hr h
  | buildSlice t len parts => exact build_of hv hr h
  | makeSlice t l c =>
    obtain ⟨l', hl, h1⟩ := evC_of hr.tm h
    obtain ⟨c', hc, h2⟩ := evC_of hr.tm h1
    obtain ⟨d, hd, h3⟩ := td_of hv h2
    obtain ⟨i, ud, hi, hu, hs, _, hsh, _⟩ := Td.of_spec hd
    split at h3
    case h_2 => exact h3.elim
    have := shOf_slice (hsh.symm.trans (by assumption))
    subst this
    obtain ⟨d', hd', h4⟩ := td_of hv h3
    have := makeS_of hv hr hu hd' h4
    simp only [execOp, hl, hc]
    exact this
  | build t parts => exact buildS_of hv hr h
  | call c =>
    obtain ⟨callee, args, ats⟩ := c
    cases callee with
    | builtin b =>
      cases b with
      | append =>
        simp only [xval] at h
        split at h
        case h_2 => exact h.elim
        rename_i x y t t' hargs hats
        obtain ⟨htt, h1⟩ := ifB_of h
        have htt := Nat.eq_of_beq_eq_true htt
        subst htt
        obtain ⟨v, hx, hvb, h2⟩ := evC_of hr.tm (evC_wf (K' := fun v => v.bel h0.length ∧ _) hr.wf (fun v hv h => ⟨hv, h⟩) h1)
        obtain ⟨u, hy, h3⟩ := evC_of hr.tm h2
        obtain ⟨d, hd, h4⟩ := td_of hv h3
        obtain ⟨i, ud, hi, hu, hs, _, hsh, _⟩ := Td.of_spec hd
        split at h4
        case h_2 => exact h4.elim
        have := shOf_slice (hsh.symm.trans (by assumption))
        subst this
        obtain ⟨d', hd', h5⟩ := td_of hv h4
        have := append_of (ty := ty) hv hr hu hd' hvb h5
        obtain ⟨v', β', h', w', hrun, rest⟩ := this
        refine ⟨v', β', h', w', ?_, rest⟩
        have e1 : args.map a.eval = #[v.ren β, u.ren β] := by
          apply Array.toList_inj.1
          rw [Array.toList_map, hargs]
          simp [hx, hy]
        have e2 : ats = #[t, t] := Array.toList_inj.1 hats
        simp only [execOp, resolve, Sem.run_bind, Sem.run_pure, Result.andThen_ok, invoke, e1, e2]
        exact hrun
      | clear =>
        simp only [xval] at h
        split at h
        case h_2 => exact h.elim
        rename_i x t hargs hats
        obtain ⟨v, hx, h2⟩ := evC_of hr.tm h
        obtain ⟨d, hd, h4⟩ := td_of hv h2
        obtain ⟨i, ud, hi, hu, hs, _, hsh, _⟩ := Td.of_spec hd
        split at h4
        case h_2 => exact h4.elim
        have := shOf_slice (hsh.symm.trans (by assumption))
        subst this
        obtain ⟨d', hd', h5⟩ := td_of hv h4
        have := clear_of (ty := ty) hv hr hu hd' h5
        obtain ⟨v', β', h', w', hrun, rest⟩ := this
        refine ⟨v', β', h', w', ?_, rest⟩
        have e1 : args.map a.eval = #[v.ren β] := by
          apply Array.toList_inj.1
          rw [Array.toList_map, hargs]
          simp [hx]
        have e2 : ats = #[t] := Array.toList_inj.1 hats
        simp only [execOp, resolve, Sem.run_bind, Sem.run_pure, Result.andThen_ok, invoke, e1, e2]
        exact hrun
      | delete =>
        simp only [xval] at h
        split at h
        case h_2 => exact h.elim
        rename_i x y t ts hargs hats
        obtain ⟨m, hx, h1⟩ := evC_of hr.tm h
        obtain ⟨kc, hy, h2⟩ := evC_of hr.tm h1
        obtain ⟨v', β', h', w', hrun, rest⟩ := mapDel_of (ty := ty) (ts := ts) hv hr h2
        refine ⟨v', β', h', w', ?_, rest⟩
        have e1 : args.map a.eval = #[m.ren β, kc.ren β] := by
          apply Array.toList_inj.1
          rw [Array.toList_map, hargs]
          simp [hx, hy]
        have e2 : ats = (t :: ts).toArray := Array.toList_inj.1 (by rw [hats])
        simp only [execOp, resolve, Sem.run_bind, Sem.run_pure, Result.andThen_ok, invoke, e1, e2]
        exact hrun
      | _ => exact pure_val hv hr h
    | _ => exact pure_val hv hr h
  | lookup t x y ok =>
    obtain ⟨m, hx, h1⟩ := evC_of hr.tm h
    obtain ⟨kc, hy, h2⟩ := evC_of hr.tm h1
    have := look_of hv hr h2
    simp only [execOp, hx, hy]
    exact this
  | range t x =>
    obtain ⟨m, hx, h1⟩ := evC_of hr.tm h
    have := range_of hv hr h1
    simp only [execOp, hx]
    exact this
  | next x str =>
    cases str with
    | true => exact h.elim
    | false =>
      obtain ⟨it, hx, h1⟩ := evC_of hr.tm h
      have := next_of (P := P) (ty := ty) hr h1
      simp only [execOp, hx]
      exact this
  | makeMap t r =>
    have h : evO ⟨t0, h0⟩ r fun r => makeMapK tb h0 t r K := h
    obtain ⟨r', hx, h1⟩ := evO_of hr.tm h
    have := makeMap_of hv hr h1
    simp only [execOp, hx]
    exact this
  | _ => exact pure_val hv hr h

/-! ### Contracts -/
/-- What a call leaves, seen from its start. -/
structure Left (β : Nm) (h : List Fam) (W : World) (β' : Nm) (h' : List Fam) (W' : World) : Prop where
  len : h.length ≤ h'.length
  pin : ∀ f x, f < h.length → β' f x = β f x
  ft : Fits β' h' W'
  wf : Wf ⟨[], h'⟩
  os : W'.os = W.os
  tape : W'.tape = W.tape
  out : W'.output = W.output
  hs : W.heap.size ≤ W'.heap.size
  fr : ∀ b, b < W.heap.size → (∀ f x, (get h f x).owned = true → (β f x).1 ≠ b) → W'.heap[b]? = W.heap[b]?
  ow : ∀ f x, (get h' f x).owned = true → (∃ g y, (get h g y).owned = true ∧ (β g y).1 = (β' f x).1) ∨ W.heap.size ≤ (β' f x).1
  kn : ∀ f x, (get h' f x).known = true → (∃ g y, (get h g y).known = true ∧ (β g y).1 = (β' f x).1) ∨ W.heap.size ≤ (β' f x).1

/-- What a function does, from a heap of its own on. -/
structure Ctr (P : Program) (F : Nat) (args : List T) (h : List Fam) (Q : T → List Fam → Prop) : Prop where
  cf : ∀ (args : Array Value) (W : World), (callFunc F args).run P W = .ok (.enter F args) W
  run : ∀ (β : Nm) (W : World), Fits β h W → Calls P F (args.map (T.ren β)).toArray W fun e W' => ∃ v h' β', Q v h' ∧ e = .returned (v.ren β') ∧ v.bel h'.length ∧ Left β h W β' h' W'

/-- Where a callee's family lies among the caller's. -/
inductive Sg where
  | whole (g : Nat)
  | mem (g y : Nat)
  /-- named, and unknown to the callee: the caller keeps what it knows of it -/
  | name (g : Nat)
  /-- family g, but its member x is the family n -/
  | adopt (g x n : Nat)

/-- A callee's key as the caller's; N: how many families the caller has. -/
def key (σ : List Sg) (N f x : Nat) : Nat × Nat :=
  match σ with
  | [] => (N + f, x)
  | .whole g :: r => match f with
    | 0 => (g, x)
    | f + 1 => key r N f x
  | .mem g y :: r => match f with
    | 0 => (g, y)
    | f + 1 => key r N f x
  | .name g :: r => match f with
    | 0 => (g, x)
    | f + 1 => key r N f x
  | .adopt g y n :: r => match f with
    | 0 => (if x = y then n else g, if x = y then 0 else x)
    | f + 1 => key r N f x

def C.rk (σ : List Sg) (N : Nat) : C → C
  | .p f x o => match key σ N f x with | (g, y) => .p g y o
  | .pe f x z e j => match key σ N f x with | (g, y) => .pe g y z e j
  | .sl f x z o n c => match key σ N f x with | (g, y) => .sl g y z o n c
  | .mp f x => match key σ N f x with | (g, y) => .mp g y
  | .fn F l => .fn F (l.map fun q => match key σ N q.1 q.2.1 with | (g, y) => (g, y, q.2.2))
  | .tt => .tt
  | .ff => .ff
  | .b x => .b x
  | .i k n => .i k n
  | .s x => .s x
  | .nilp => .nilp
  | .nils => .nils
  | .nilm => .nilm
  | .nilf => .nilf

def E.rk (σ : List Sg) (N : Nat) : E → E
  | .c v => .c (v.rk σ N)
  | .a l => .a (l.map (C.rk σ N))

def T.rk (σ : List Sg) (N : Nat) : T → T
  | .c v => .c (v.rk σ N)
  | .a l => .a (l.map (C.rk σ N))
  | .t l => .t (l.map (E.rk σ N))

def Ck.rk (σ : List Sg) (N : Nat) : Ck → Ck
  | .no => .no
  | .cells w l => .cells w (l.map (C.rk σ N))
  | .row w k e z n c f => match k with
    | true => .row w true e z n c fun i => (f i).map (C.rk σ N)
    | false => .row w false e z n c f
  | .map w k ck n f => match k with
    | true => .map w true ck n fun i => ((f i).1, (f i).2.1, (f i).2.2.rk σ N)
    | false => .map w false ck n f
  | .iter m x ck seen => match key σ N m x with | (g, y) => .iter g y ck seen

def Fam.rk (σ : List Sg) (N : Nat) : Fam → Fam
  | .one q => .one (q.rk σ N)
  | .many g => .many fun x => (g x).rk σ N

/-- The caller's keys that a call takes are apart. -/
def apart : List Sg → Bool
  | [] => true
  | .whole g :: r => r.all (fun q => match q with | .whole g' => !Nat.beq g g' | .mem g' _ => !Nat.beq g g' | .name _ => true | .adopt _ _ _ => false) && apart r
  | .mem g _ :: r => r.all (fun q => match q with | .whole g' => !Nat.beq g g' | .mem g' _ => !Nat.beq g g' | .name _ => true | .adopt _ _ _ => false) && apart r
  | .name _ :: r => apart r
  | .adopt _ _ _ :: _ => false

/-- The caller's heap behind the call. -/
def gives (σ0 : List Sg) (N : Nat) : List Fam → List Sg → List Fam → (List Fam → Prop) → Prop
  | H, [], h', K => K (H ++ h'.map (Fam.rk σ0 N))
  | H, .whole g :: r, m :: h', K => setK H g (m.rk σ0 N) fun H' => gives σ0 N H' r h' K
  | H, .mem g y :: r, m :: h', K => m.atK 0 fun q => updK H g y (q.rk σ0 N) fun H' => gives σ0 N H' r h' K
  | H, .name _ :: r, _ :: h', K => gives σ0 N H r h' K
  | _, .adopt _ _ _ :: _, _, _ => False
  | _, _ :: _, [], _ => False
where
  setK : List Fam → Nat → Fam → (List Fam → Prop) → Prop
  | [], _, _, _ => False
  | _ :: l, 0, m, K => K (m :: l)
  | a :: l, g + 1, m, K => setK l g m fun l' => K (a :: l')

end Go.X

set_option linter.constructorNameAsVariable false
set_option linter.unusedVariables false
namespace Go.X
variable {cx : Cx} {β : Nm} {s : S} {a : Act} {w : World} {P : Program} {tb : Tb}

section rk
variable {σ : List Sg} {N : Nat} {β βc : Nm}

theorem rk_C (h : ∀ f x, βc f x = β (key σ N f x).1 (key σ N f x).2) (v : C) : (v.rk σ N).ren β = v.ren βc := by
  have pl : ∀ f x o, place β (key σ N f x).1 (key σ N f x).2 o = place βc f x o := fun f x o => by unfold place; rw [h f x]
  cases v <;> simp only [C.rk, C.ren]
  · rw [pl]
  · rw [pl]
  · rw [pl, h]
  · rw [h]
  · simp only [List.map_map]
    congr 2
    apply List.map_congr_left
    intro q _
    simp only [Function.comp, pl]

theorem rk_L (h : ∀ f x, βc f x = β (key σ N f x).1 (key σ N f x).2) (l : List C) : renL β (l.map (C.rk σ N)) = renL βc l := by
  unfold renL
  simp only [List.map_map]
  congr 1
  exact List.map_congr_left fun v _ => rk_C h v

theorem rk_T (h : ∀ f x, βc f x = β (key σ N f x).1 (key σ N f x).2) (v : T) : (v.rk σ N).ren β = v.ren βc := by
  cases v with
  | c v => exact rk_C h v
  | a l => simp only [T.rk, T.ren, rk_L h]
  | t l =>
    simp only [T.rk, T.ren, List.map_map]
    congr 2
    apply List.map_congr_left
    intro e _
    cases e with
    | c v => exact rk_C h v
    | a l => simp only [Function.comp, E.rk, E.ren, rk_L h]

theorem rk_flat {v : C} (hv : v.flat = true) : v.rk σ N = v := by
  cases v <;> simp_all [C.flat, C.rk]
theorem flat_rk (v : C) : (v.rk σ N).flat = v.flat := by
  cases v <;> simp [C.flat, C.rk]

theorem rk_E (h : ∀ f x, βc f x = β (key σ N f x).1 (key σ N f x).2) (v : E) : (v.rk σ N).ren β = v.ren βc := by
  cases v with
  | c v => exact rk_C h v
  | a l => simp only [E.rk, E.ren, rk_L h]

theorem rk_holds (h : ∀ f x, βc f x = β (key σ N f x).1 (key σ N f x).2) {c : Ck} {w : World} {A : Nat × Nat × Fl} : (c.rk σ N).holds β w A ↔ c.holds βc w A := by
  cases c with
  | no => exact Iff.rfl
  | cells own l =>
    constructor
    · rintro ⟨cur, e, fz, hb, hc, ho⟩
      refine ⟨cur, e, fz, hb, fun j v hj => ?_, ho⟩
      rw [hc j (v.rk σ N) (by simp [hj]), rk_C h]
    · rintro ⟨cur, e, fz, hb, hc, ho⟩
      refine ⟨cur, e, fz, hb, fun j v hj => ?_, ho⟩
      rw [List.getElem?_map] at hj
      obtain ⟨u, hu, rfl⟩ := Option.map_eq_some_iff.1 hj
      rw [hc j u hu, rk_C h]
  | row own k e z n c f =>
    cases k with
    | true =>
      constructor
      · rintro ⟨q1, q2, _, q4, q5⟩
        refine ⟨q1, q2, fun e => (by cases e), fun i hi => by simpa using q4 i hi, fun h0 => ?_⟩
        obtain ⟨cur, te, fz, hb, hc, ho⟩ := q5 h0
        refine ⟨cur, te, fz, hb, fun i hi j v hj => ?_, ho⟩
        rw [hc i hi j (v.rk σ N) (by simp [hj]), rk_C h]
      · rintro ⟨q1, q2, _, q4, q5⟩
        refine ⟨q1, q2, fun e => (by cases e), fun i hi => by simpa using q4 i hi, fun h0 => ?_⟩
        obtain ⟨cur, te, fz, hb, hc, ho⟩ := q5 h0
        refine ⟨cur, te, fz, hb, fun i hi j v hj => ?_, ho⟩
        rw [List.getElem?_map] at hj
        obtain ⟨u, hu, rfl⟩ := Option.map_eq_some_iff.1 hj
        rw [hc i hi j u hu, rk_C h]
    | false =>
      constructor
      · rintro ⟨q1, q2, hk, q4, q5⟩
        refine ⟨q1, q2, hk, q4, fun h0 => ?_⟩
        obtain ⟨cur, te, fz, hb, hc, ho⟩ := q5 h0
        exact ⟨cur, te, fz, hb, fun i hi j v hj => by rw [hc i hi j v hj]; rw [C.flat_ren (hk rfl i hi v (List.mem_of_getElem? hj)) β βc], ho⟩
      · rintro ⟨q1, q2, hk, q4, q5⟩
        refine ⟨q1, q2, hk, q4, fun h0 => ?_⟩
        obtain ⟨cur, te, fz, hb, hc, ho⟩ := q5 h0
        exact ⟨cur, te, fz, hb, fun i hi j v hj => by rw [hc i hi j v hj]; rw [C.flat_ren (hk rfl i hi v (List.mem_of_getElem? hj)) β βc], ho⟩
  | map own k ck n f =>
    cases k with
    | true =>
      constructor
      · rintro ⟨⟨es, h1, h2, h3⟩, h4, h5, _⟩
        exact ⟨⟨es, h1, h2, fun i hi => by rw [h3 i hi, rk_E h]⟩, h4, h5, fun e => by cases e⟩
      · rintro ⟨⟨es, h1, h2, h3⟩, h4, h5, _⟩
        exact ⟨⟨es, h1, h2, fun i hi => by rw [h3 i hi, rk_E h]⟩, h4, h5, fun e => by cases e⟩
    | false =>
      constructor
      · rintro ⟨⟨es, h1, h2, h3⟩, h4, h5, h6⟩
        exact ⟨⟨es, h1, h2, fun i hi => by rw [h3 i hi, E.flat_ren (h6 rfl i hi) β βc]⟩, h4, h5, h6⟩
      · rintro ⟨⟨es, h1, h2, h3⟩, h4, h5, h6⟩
        exact ⟨⟨es, h1, h2, fun i hi => by rw [h3 i hi, E.flat_ren (h6 rfl i hi) β βc]⟩, h4, h5, h6⟩
  | iter m x ck seen =>
    show (A.2.1 = 0 ∧ w.heap[A.1]? = some (.mapIter (some (β (key σ N m x).1 (key σ N m x).2).1) ck seen.toArray ck)) ↔ (A.2.1 = 0 ∧ w.heap[A.1]? = some (.mapIter (some (βc m x).1) ck seen.toArray ck))
    rw [h m x]

theorem rk_owned (c : Ck) : (c.rk σ N).owned = c.owned := by
  cases c with
  | row own k e z n c f => cases k <;> rfl
  | map own k ck n f => cases k <;> rfl
  | _ => rfl
theorem rk_known (c : Ck) : (c.rk σ N).known = c.known := by
  cases c with
  | row own k e z n c f => cases k <;> rfl
  | map own k ck n f => cases k <;> rfl
  | _ => rfl
theorem rk_at (m : Fam) (x : Nat) : (m.rk σ N).at x = (m.at x).rk σ N := by
  cases m with
  | one q => cases x <;> rfl
  | many g => rfl

/-- Keys stay in bounds. -/
theorem bel_C {n M : Nat} (h : ∀ f x, f < n → (key σ N f x).1 < M) {v : C} (hv : v.bel n) : (v.rk σ N).bel M := by
  cases v <;> simp only [C.rk, C.bel] at hv ⊢
  · exact h _ _ hv
  · exact h _ _ hv
  · exact h _ _ hv
  · exact h _ _ hv
  · intro q hq
    obtain ⟨p, hp, rfl⟩ := List.mem_map.1 hq
    exact h _ _ (hv p hp)
theorem bel_T {n M : Nat} (h : ∀ f x, f < n → (key σ N f x).1 < M) {v : T} (hv : v.bel n) : (v.rk σ N).bel M := by
  cases v with
  | c v => exact bel_C h hv
  | a l =>
    intro v hm
    obtain ⟨u, hu, rfl⟩ := List.mem_map.1 hm
    exact bel_C h (hv u hu)
  | t l =>
    intro e hm
    obtain ⟨u, hu, rfl⟩ := List.mem_map.1 hm
    have := hv u hu
    cases u with
    | c v => exact bel_C h this
    | a l =>
      intro v hm
      obtain ⟨u, hu, rfl⟩ := List.mem_map.1 hm
      exact bel_C h (this u hu)
theorem bel_Ck {n M : Nat} (h : ∀ f x, f < n → (key σ N f x).1 < M) {c : Ck} (hf : ∀ β w A, c.holds β w A → True) (hk : ∀ own e z m cc f, c = .row own false e z m cc f → ∀ i, i < m → ∀ v ∈ f i, v.flat = true) (hc : c.bel n) : (c.rk σ N).bel M := by
  cases c with
  | no => trivial
  | cells own l =>
    intro v hm
    obtain ⟨u, hu, rfl⟩ := List.mem_map.1 hm
    exact bel_C h (hc u hu)
  | row own k e z m cc f =>
    cases k with
    | true =>
      intro i hi v hm
      obtain ⟨u, hu, rfl⟩ := List.mem_map.1 hm
      exact bel_C h (hc i hi u hu)
    | false =>
      intro i hi v hm
      have := hk own e z m cc f rfl i hi v hm
      rw [← rk_flat (σ := σ) (N := N) this]
      exact bel_C h (hc i hi v hm)
  | map own k ck m f =>
    cases k with
    | true =>
      intro i hi
      have := hc i hi
      show ((f i).2.2.rk σ N).bel M
      cases hv : (f i).2.2 with
      | c v => rw [hv] at this; exact bel_C h this
      | a l =>
        rw [hv] at this
        intro v hm
        obtain ⟨u, hu, rfl⟩ := List.mem_map.1 hm
        exact bel_C h (this u hu)
    | false => exact fun i hi => hc i hi
  | iter m x ck seen => exact h m x hc
end rk

/-! ### Keys -/
/-- Key (g, y) is one that the call takes. -/
def Tgt (σ : List Sg) (g y : Nat) : Prop := ∃ f : Nat, σ[f]? = some (.whole g) ∨ σ[f]? = some (.mem g y)

theorem key_whole : ∀ {σ : List Sg} {N f g x : Nat}, σ[f]? = some (.whole g) → key σ N f x = (g, x)
  | [], N, f, g, x, h => by simp at h
  | q :: r, N, 0, g, x, h => by
    simp at h; subst h; rfl
  | q :: r, N, f + 1, g, x, h => by
    have := key_whole (σ := r) (N := N) (x := x) (by simpa using h)
    cases q <;> exact this
theorem key_mem : ∀ {σ : List Sg} {N f g y x : Nat}, σ[f]? = some (.mem g y) → key σ N f x = (g, y)
  | [], N, f, g, y, x, h => by simp at h
  | q :: r, N, 0, g, y, x, h => by
    simp at h; subst h; rfl
  | q :: r, N, f + 1, g, y, x, h => by
    have := key_mem (σ := r) (N := N) (x := x) (by simpa using h)
    cases q <;> exact this
theorem key_name : ∀ {σ : List Sg} {N f g x : Nat}, σ[f]? = some (.name g) → key σ N f x = (g, x)
  | [], N, f, g, x, h => by simp at h
  | q :: r, N, 0, g, x, h => by
    simp at h; subst h; rfl
  | q :: r, N, f + 1, g, x, h => by
    have := key_name (σ := r) (N := N) (x := x) (by simpa using h)
    cases q <;> exact this
theorem key_adopt : ∀ {σ : List Sg} {N f g y n x : Nat}, σ[f]? = some (.adopt g y n) → key σ N f x = (if x = y then n else g, if x = y then 0 else x)
  | [], N, f, g, y, n, x, h => by simp at h
  | q :: r, N, 0, g, y, n, x, h => by
    simp at h; subst h; rfl
  | q :: r, N, f + 1, g, y, n, x, h => by
    have := key_adopt (σ := r) (N := N) (x := x) (by simpa using h)
    cases q <;> exact this
theorem key_new : ∀ {σ : List Sg} {N f x : Nat}, σ.length ≤ f → key σ N f x = (N + (f - σ.length), x)
  | [], N, f, x, h => rfl
  | q :: r, N, 0, x, h => by simp at h
  | q :: r, N, f + 1, x, h => by
    have := key_new (σ := r) (N := N) (x := x) (f := f) (by simpa using h)
    have e : f + 1 - (q :: r).length = f - r.length := by simp
    rw [e]
    cases q <;> exact this

def Sg.fam : Sg → Nat
  | .whole g => g
  | .mem g _ => g
  | .name g => g
  | .adopt g _ _ => g

def Sg.nm : Sg → Bool
  | .name _ => true
  | _ => false

theorem apart_noadopt : ∀ {σ : List Sg}, Go.X.apart σ = true → ∀ (i g x n : Nat), σ[i]? ≠ some (.adopt g x n)
  | [], _, i, g, x, n => by simp
  | r :: l, h, i, g, x, n => by
    have hh : Go.X.apart l = true ∧ r ≠ .adopt g x n := by
      cases r with
      | whole q => exact ⟨(Bool.and_eq_true_iff.1 h).2, by simp⟩
      | mem q y => exact ⟨(Bool.and_eq_true_iff.1 h).2, by simp⟩
      | name q => exact ⟨h, by simp⟩
      | adopt a b c => cases h
    cases i with
    | zero => simp; exact hh.2
    | succ i => simpa using apart_noadopt hh.1 i g x n

theorem apart_spec : ∀ {σ : List Sg}, Go.X.apart σ = true → ∀ (i j : Nat) (p q : Sg), σ[i]? = some p → σ[j]? = some q → i ≠ j → p.nm = false → q.nm = false → p.fam ≠ q.fam
  | [], _, i, j, p, q, hp, _, _, _, _ => by simp at hp
  | r :: l, h, i, j, p, q, hp, hq, hne, np, nq => by
    have hl : Go.X.apart l = true := by
      cases r with
      | whole q => exact (Bool.and_eq_true_iff.1 h).2
      | mem q y => exact (Bool.and_eq_true_iff.1 h).2
      | name q => exact h
      | adopt a b c => cases h
    have first : r.nm = false → ∀ (q : Sg), q ∈ l → q.nm = false → r.fam ≠ q.fam := by
      intro hr q hq hqn
      have hh : l.all (fun q => match q with | .whole g' => !Nat.beq r.fam g' | .mem g' _ => !Nat.beq r.fam g' | .name _ => true | .adopt _ _ _ => false) = true := by
        cases r with
        | whole q => exact (Bool.and_eq_true_iff.1 h).1
        | mem q y => exact (Bool.and_eq_true_iff.1 h).1
        | name q => cases hr
        | adopt a b c => cases h
      have := List.all_eq_true.1 hh q hq
      intro e
      have e2 : Nat.beq r.fam q.fam = true := by rw [e]; exact Nat.beq_refl _
      cases q with
      | name g => cases hqn
      | adopt a b c => cases this
      | _ => simp only [Sg.fam] at e2 this; rw [e2] at this; cases this
    cases i with
    | zero =>
      cases j with
      | zero => exact absurd rfl hne
      | succ j =>
        simp at hp hq
        subst hp
        exact first np q (List.mem_of_getElem? hq) nq
    | succ i =>
      cases j with
      | zero =>
        simp at hp hq
        subst hq
        exact (first nq p (List.mem_of_getElem? hp) np).symm
      | succ j => exact apart_spec hl i j p q (by simpa using hp) (by simpa using hq) (by omega) np nq

theorem setK_of : ∀ {H : List Fam} {g : Nat} {m : Fam} {K : List Fam → Prop}, gives.setK H g m K → ∃ H', K H' ∧ H'.length = H.length ∧ (∀ y, get H' g y = m.at y) ∧ ∀ g' y, g' ≠ g → get H' g' y = get H g' y
  | [], g, m, K, h => by cases g <;> exact h.elim
  | _ :: l, 0, m, K, h => ⟨_, h, by simp, by simp [get], fun g' y hne => by
      cases g' with
      | zero => exact absurd rfl hne
      | succ g' => simp [get]⟩
  | a :: l, g + 1, m, K, h => by
    obtain ⟨H', hk, h1, h2, h3⟩ := setK_of (H := l) (g := g) (m := m) (K := fun l' => K (a :: l')) h
    refine ⟨_, hk, by simp [h1], fun y => by simpa [get] using h2 y, fun g' y hne => ?_⟩
    cases g' with
    | zero => simp [get]
    | succ g' => simpa [get] using h3 g' y (by omega)

theorem gives_of {σ0 : List Sg} {N : Nat} : ∀ {σ : List Sg} {H h' : List Fam} {K : List Fam → Prop}, Go.X.apart σ = true → (∀ q ∈ σ, q.fam < H.length) → gives σ0 N H σ h' K →
    ∃ H', K H' ∧ σ.length ≤ h'.length ∧ H'.length = H.length + (h'.length - σ.length) ∧
      (∀ f g : Nat, σ[f]? = some (.whole g) → ∀ y, get H' g y = (get h' f y).rk σ0 N) ∧ (∀ f g y : Nat, σ[f]? = some (.mem g y) → get H' g y = (get h' f 0).rk σ0 N) ∧
      (∀ g y, g < H.length → ¬ Tgt σ g y → get H' g y = get H g y) ∧ (∀ i y, get H' (H.length + i) y = (get h' (σ.length + i) y).rk σ0 N)
  | [], H, h', K, _, _, h => by
    have h1 : K (H ++ h'.map (Fam.rk σ0 N)) := by unfold gives at h; exact h
    refine ⟨_, h1, by simp, by simp, by simp, by simp, fun g y hg _ => ?_, fun i y => ?_⟩
    · unfold get; rw [List.getElem?_append_left hg]
    · unfold get
      rw [List.getElem?_append_right (by omega), List.getElem?_map]
      simp only [List.length_nil, Nat.zero_add, Nat.add_sub_cancel_left]
      cases h'[i]? with
      | none => rfl
      | some m => exact rk_at m y
  | .whole g :: r, H, [], K, _, _, h => h.elim
  | .mem g y :: r, H, [], K, _, _, h => h.elim
  | .name g :: r, H, [], K, _, _, h => h.elim
  | .adopt g y n :: r, H, l, K, ha, _, h => by cases ha
  | .name g :: r, H, m :: h', K, ha, hlt, h => by
    have ha' : Go.X.apart r = true := ha
    have h : gives σ0 N H r h' K := h
    obtain ⟨H', hk, i1, i2, i3, i4, i5, i6⟩ := gives_of ha' (fun q hq => hlt q (by simp [hq])) h
    refine ⟨H', hk, by simp; omega, by simp; omega, fun f g' hf y => ?_, fun f g' y' hf => ?_, fun g' y hg' hn => ?_, fun i y => ?_⟩
    · cases f with
      | zero => simp at hf
      | succ f => simpa [get] using i3 f g' (by simpa using hf) y
    · cases f with
      | zero => simp at hf
      | succ f => simpa [get] using i4 f g' y' (by simpa using hf)
    · exact i5 g' y hg' fun ⟨f, hf⟩ => hn ⟨f + 1, by simpa using hf⟩
    · rw [i6 i y]
      simp only [get, List.length_cons]
      rw [show r.length + 1 + i = (r.length + i) + 1 from by omega, List.getElem?_cons_succ]
  | .whole g :: r, H, m :: h', K, ha, hlt, h => by
    obtain ⟨H1, h1, hl1, hs1, ho1⟩ := setK_of h
    have ha' : Go.X.apart r = true := (Bool.and_eq_true_iff.1 ha).2
    obtain ⟨H', hk, i1, i2, i3, i4, i5, i6⟩ := gives_of ha' (fun q hq => by rw [hl1]; exact hlt q (by simp [hq])) h1
    have hgr : ∀ q ∈ r, q.nm = false → g ≠ q.fam := by
      intro q hq hqn
      obtain ⟨j, hj⟩ := List.getElem?_of_mem hq
      exact apart_spec ha 0 (j + 1) (.whole g) q (by simp) (by simpa using hj) (by omega) rfl hqn
    have hnt : ∀ y, ¬ Tgt r g y := by
      rintro y ⟨f, hf | hf⟩
      · exact hgr _ (List.mem_of_getElem? hf) rfl rfl
      · exact hgr _ (List.mem_of_getElem? hf) rfl rfl
    have hg : g < H.length := hlt (.whole g) (by simp)
    refine ⟨H', hk, by simp; omega, by simp; omega, fun f g' hf y => ?_, fun f g' y' hf => ?_, fun g' y hg' hn => ?_, fun i y => ?_⟩
    · cases f with
      | zero =>
        simp at hf; subst hf
        rw [i5 g y (by omega) (hnt y), hs1, rk_at]; simp [get]
      | succ f => simpa [get] using i3 f g' (by simpa using hf) y
    · cases f with
      | zero => simp at hf
      | succ f => simpa [get] using i4 f g' y' (by simpa using hf)
    · have hn' : ¬ Tgt r g' y := fun ⟨f, hf⟩ => hn ⟨f + 1, by simpa using hf⟩
      have hne : g' ≠ g := fun e => hn ⟨0, .inl (by simp [e])⟩
      rw [i5 g' y (by omega) hn', ho1 g' y hne]
    · have := i6 i y
      rw [hl1] at this
      rw [this]
      simp only [get, List.length_cons]
      rw [show r.length + 1 + i = (r.length + i) + 1 from by omega, List.getElem?_cons_succ]
  | .mem g y :: r, H, m :: h', K, ha, hlt, h => by
    have h : m.atK 0 fun q => updK H g y (q.rk σ0 N) fun H' => gives σ0 N H' r h' K := h
    have h0 : updK H g y ((m.at 0).rk σ0 N) fun H' => gives σ0 N H' r h' K := by
      cases m with
      | one q => exact h
      | many g => exact ManyK.of h
    obtain ⟨H1, h1, hl1, hs1, ho1⟩ := updK_of h0
    have ha' : Go.X.apart r = true := (Bool.and_eq_true_iff.1 ha).2
    obtain ⟨H', hk, i1, i2, i3, i4, i5, i6⟩ := gives_of ha' (fun q hq => by rw [hl1]; exact hlt q (by simp [hq])) h1
    have hgr : ∀ q ∈ r, q.nm = false → g ≠ q.fam := by
      intro q hq hqn
      obtain ⟨j, hj⟩ := List.getElem?_of_mem hq
      exact apart_spec ha 0 (j + 1) (.mem g y) q (by simp) (by simpa using hj) (by omega) rfl hqn
    have hnt : ∀ y, ¬ Tgt r g y := by
      rintro y ⟨f, hf | hf⟩
      · exact hgr _ (List.mem_of_getElem? hf) rfl rfl
      · exact hgr _ (List.mem_of_getElem? hf) rfl rfl
    have hg : g < H.length := hlt (.mem g y) (by simp)
    refine ⟨H', hk, by simp; omega, by simp; omega, fun f g' hf y => ?_, fun f g' y' hf => ?_, fun g' y' hg' hn => ?_, fun i y => ?_⟩
    · cases f with
      | zero => simp at hf
      | succ f => simpa [get] using i3 f g' (by simpa using hf) y
    · cases f with
      | zero =>
        simp at hf
        obtain ⟨rfl, rfl⟩ := hf
        rw [i5 g y (by omega) (hnt y), hs1]; simp [get]
      | succ f => simpa [get] using i4 f g' y' (by simpa using hf)
    · have hn' : ¬ Tgt r g' y' := fun ⟨f, hf⟩ => hn ⟨f + 1, by simpa using hf⟩
      have hne : (g', y') ≠ (g, y) := fun e => hn ⟨0, .inr (by cases e; simp)⟩
      rw [i5 g' y' (by omega) hn', ho1 g' y' hne]
    · have := i6 i y
      rw [hl1] at this
      rw [this]
      simp only [get, List.length_cons]
      rw [show r.length + 1 + i = (r.length + i) + 1 from by omega, List.getElem?_cons_succ]
end Go.X

set_option linter.constructorNameAsVariable false
set_option linter.unusedVariables false
namespace Go.X
variable {cx : Cx} {β : Nm} {s : S} {a : Act} {w : World} {P : Program} {tb : Tb}

theorem Fits.flat {h : List Fam} (hf : Fits β h w) (f x : Nat) : ∀ own e z m cc g, get h f x = .row own false e z m cc g → ∀ i, i < m → ∀ v ∈ g i, v.flat = true := by
  intro own e z m cc g hg
  have := hf.ck f x
  rw [hg] at this
  obtain ⟨_, _, hk, _⟩ := this
  exact hk rfl

theorem Ck.known_ne {c : Ck} (h : c.known = true) : c ≠ .no := fun e => by subst e; cases h
theorem rk_ne {σ : List Sg} {N : Nat} {c : Ck} (h : c.rk σ N ≠ .no) : c ≠ .no := fun e => h (by subst e; rfl)

theorem callK_core (hr : Rel cx β s a w) {F : Nat} {σ : List Sg} {args0 : List T} {h0 : List Fam} {Q : T → List Fam → Prop} {K : T → List Fam → Prop} (sp : Ctr P F args0 h0 Q) (hap : Go.X.apart σ = true) (hlen : σ.length = h0.length)
    (hwh : ∀ f g : Nat, σ[f]? = some (.whole g) → g < s.h.length ∧ ∀ y, get s.h g y = (get h0 f y).rk σ s.h.length)
    (hme : ∀ f g y : Nat, σ[f]? = some (.mem g y) → g < s.h.length ∧ get s.h g y = (get h0 f 0).rk σ s.h.length ∧ ∀ x, x ≠ 0 → get h0 f x = .no)
    (hnm : ∀ f g : Nat, σ[f]? = some (.name g) → g < s.h.length ∧ ∀ x, get h0 f x = .no)
    (hK : ∀ v h', Q v h' → capsP h' → gives σ s.h.length s.h σ h' fun H' => K (v.rk σ s.h.length) H') :
    Calls P F ((args0.map (T.rk σ s.h.length)).map (T.ren β)).toArray w fun e w' => ∃ v h' β', e = .returned (v.ren β') ∧ K v h' ∧ v.bel h'.length ∧ Agree s.h.length β β' ∧ s.h.length ≤ h'.length ∧ Rel cx β' ⟨s.t, h'⟩ a w' := by
  generalize hN : s.h.length = N at *
  let βc : Nm := fun f x => β (key σ N f x).1 (key σ N f x).2
  have hβc : ∀ f x, βc f x = β (key σ N f x).1 (key σ N f x).2 := fun _ _ => rfl
  have hfam : ∀ q ∈ σ, q.fam < s.h.length := by
    intro q hq
    obtain ⟨j, hj⟩ := List.getElem?_of_mem hq
    cases q with
    | whole g => rw [hN]; exact (hwh j g hj).1
    | mem g y => rw [hN]; exact (hme j g y hj).1
    | name g => rw [hN]; exact (hnm j g hj).1
    | adopt a b c => exact absurd hj (apart_noadopt hap _ _ _ _)
  -- a callee's known key
  have hkey : ∀ f x, get h0 f x ≠ .no → f < σ.length ∧ Tgt σ (key σ N f x).1 (key σ N f x).2 ∧ (key σ N f x).1 < s.h.length ∧ get s.h (key σ N f x).1 (key σ N f x).2 = (get h0 f x).rk σ N ∧ (∀ g y, σ[f]? = some (.mem g y) → x = 0) ∧ ∃ q, σ[f]? = some q ∧ q.nm = false := by
    intro f x hk
    have hf : f < h0.length := get_lt hk
    rw [← hlen] at hf
    cases hq : σ[f]? with
    | none => simp at hq; omega
    | some q =>
      cases q with
      | whole g =>
        rw [key_whole hq]
        obtain ⟨h1, h2⟩ := hwh f g hq
        exact ⟨hf, ⟨f, .inl hq⟩, by rw [hN]; exact h1, h2 x, (fun _ _ e => by cases e), _, rfl, rfl⟩
      | mem g y =>
        rw [key_mem hq]
        obtain ⟨h1, h2, h3⟩ := hme f g y hq
        have hx : x = 0 := by
          by_cases hx : x = 0
          · exact hx
          · exact absurd (h3 x hx) hk
        subst hx
        exact ⟨hf, ⟨f, .inr hq⟩, by rw [hN]; exact h1, h2, (fun _ _ _ => rfl), _, rfl, rfl⟩
      | name g => exact absurd ((hnm f g hq).2 x) hk
      | adopt a b c => exact absurd hq (apart_noadopt hap _ _ _ _)
  -- keys are apart
  have hinj : ∀ f x f' x', f < σ.length → f' < σ.length → (∀ g y, σ[f]? = some (.mem g y) → x = 0) → (∀ g y, σ[f']? = some (.mem g y) → x' = 0) → (∃ q, σ[f]? = some q ∧ q.nm = false) → (∃ q, σ[f']? = some q ∧ q.nm = false) → (f, x) ≠ (f', x') → key σ N f x ≠ key σ N f' x' := by
    intro f x f' x' hf hf' hx hx' hn1 hn2 hne
    have hq := List.getElem?_eq_getElem hf
    have hq' := List.getElem?_eq_getElem hf'
    by_cases hff : f = f'
    · subst hff
      have hxx : x ≠ x' := fun e => hne (by rw [e])
      cases hc : σ[f] with
      | whole g =>
        rw [hc] at hq
        rw [key_whole hq, key_whole hq]
        intro e; cases e; exact hxx rfl
      | mem g y =>
        rw [hc] at hq
        exact absurd ((hx g y hq).trans (hx' g y hq).symm) hxx
      | name g =>
        rw [hc] at hq
        obtain ⟨q, hq1, hq2⟩ := hn1
        rw [hq] at hq1
        cases hq1; cases hq2
      | adopt a b c => rw [hc] at hq; exact absurd hq (apart_noadopt hap _ _ _ _)
    · have hne1 : σ[f].nm = false := by
        obtain ⟨q, hq1, hq2⟩ := hn1
        rw [hq] at hq1
        cases hq1; exact hq2
      have hne2 : σ[f'].nm = false := by
        obtain ⟨q, hq1, hq2⟩ := hn2
        rw [hq'] at hq1
        cases hq1; exact hq2
      have := apart_spec hap f f' _ _ hq hq' hff hne1 hne2
      have k1 : (key σ N f x).1 = σ[f].fam := by
        cases hc : σ[f] with
        | whole g => rw [hc] at hq; rw [key_whole hq]; rfl
        | mem g y => rw [hc] at hq; rw [key_mem hq]; rfl
        | name g => rw [hc] at hq; rw [key_name hq]; rfl
        | adopt a b c => rw [hc] at hq; exact absurd hq (apart_noadopt hap _ _ _ _)
      have k2 : (key σ N f' x').1 = σ[f'].fam := by
        cases hc : σ[f'] with
        | whole g => rw [hc] at hq'; rw [key_whole hq']; rfl
        | mem g y => rw [hc] at hq'; rw [key_mem hq']; rfl
        | name g => rw [hc] at hq'; rw [key_name hq']; rfl
        | adopt a b c => rw [hc] at hq'; exact absurd hq' (apart_noadopt hap _ _ _ _)
      intro e
      rw [← k1, ← k2, e] at this
      exact this rfl
  have hfit : Fits βc h0 w := by
    constructor
    · intro f x
      by_cases hk : get h0 f x = .no
      · rw [hk]; trivial
      · obtain ⟨_, _, _, h4, _⟩ := hkey f x hk
        have := hr.ft.ck (key σ N f x).1 (key σ N f x).2
        rw [h4] at this
        exact (rk_holds hβc).1 this
    · intro f x g y hne ho hk
      obtain ⟨a1, a2, a3, a4, a5, a6⟩ := hkey f x (Ck.known_ne (Ck.owned_known ho))
      obtain ⟨b1, b2, b3, b4, b5, b6⟩ := hkey g y (Ck.known_ne hk)
      have := hinj f x g y a1 b1 a5 b5 a6 b6 hne
      exact hr.ft.sep _ _ _ _ (fun e => this (Prod.ext (congrArg Prod.fst e) (congrArg Prod.snd e))) (by rw [a4, rk_owned]; exact ho) (by rw [b4, rk_known]; exact hk)
  have hrun := sp.run βc w hfit
  have eargs : (List.map (T.ren β) (List.map (T.rk σ N) args0)).toArray = (args0.map (T.ren βc)).toArray := by
    rw [List.map_map]
    congr 1
    exact List.map_congr_left fun v _ => rk_T hβc v
  rw [eargs]
  refine hrun.mono fun e w' ⟨v, h', β', hQ, he, hvb, L⟩ => ?_
  have hg := hK v h' hQ (capsP_of L.ft)
  obtain ⟨H', hk, g1, g2, g3, g4, g5, g6⟩ := gives_of hap hfam hg
  let βn : Nm := fun g y => if g < N then β g y else β' (g - N + σ.length) y
  have hag : Agree s.h.length β βn := fun g y hg => by
    show β g y = if g < N then _ else _
    rw [if_pos (by omega)]
  have hβn : ∀ f x, β' f x = βn (key σ N f x).1 (key σ N f x).2 := by
    intro f x
    show _ = if (key σ N f x).1 < N then _ else _
    by_cases hf : f < σ.length
    · have hlt : (key σ N f x).1 < N := by
        have hq := List.getElem?_eq_getElem hf
        cases hc : σ[f] with
        | whole g => rw [hc] at hq; rw [key_whole hq]; have := (hwh f g hq).1; omega
        | mem g y => rw [hc] at hq; rw [key_mem hq]; have := (hme f g y hq).1; omega
        | name g => rw [hc] at hq; rw [key_name hq]; have := (hnm f g hq).1; simp only; omega
        | adopt a b c => rw [hc] at hq; exact absurd hq (apart_noadopt hap _ _ _ _)
      rw [if_pos hlt, L.pin f x (by omega)]
    · rw [key_new (by omega)]
      rw [if_neg (by simp)]
      simp only
      congr 1
      omega
  have hbel : ∀ f x, f < h'.length → (key σ N f x).1 < H'.length := by
    intro f x hf
    by_cases hfs : f < σ.length
    · have hq := List.getElem?_eq_getElem hfs
      have := hfam _ (List.getElem_mem hfs)
      cases hc : σ[f] with
      | whole g => rw [hc] at hq this; rw [key_whole hq]; simp [Sg.fam] at this; simp only; omega
      | mem g y => rw [hc] at hq this; rw [key_mem hq]; simp [Sg.fam] at this; simp only; omega
      | name g => rw [hc] at hq this; rw [key_name hq]; simp [Sg.fam] at this; simp only; omega
      | adopt a b c => rw [hc] at hq; exact absurd hq (apart_noadopt hap _ _ _ _)
    · rw [key_new (by omega)]; simp only; omega
  -- every key of the new heap
  have hcases : ∀ g y, get H' g y ≠ .no → (∃ f x, get h' f x ≠ .no ∧ get H' g y = (get h' f x).rk σ N ∧ βn g y = β' f x ∧ key σ N f x = (g, y) ∧ (∀ g y, σ[f]? = some (.mem g y) → x = 0)) ∨ (g < s.h.length ∧ ¬ Tgt σ g y ∧ get H' g y = get s.h g y ∧ βn g y = β g y) := by
    intro g y hkn
    by_cases hg : g < s.h.length
    · by_cases ht : Tgt σ g y
      · left
        obtain ⟨f, hf | hf⟩ := ht
        · have e1 := g3 f g hf y
          refine ⟨f, y, by rw [e1] at hkn; exact rk_ne hkn, e1, ?_, key_whole hf, fun _ _ e => by rw [hf] at e; cases e⟩
          rw [hβn f y, key_whole hf]
        · have e1 := g4 f g y hf
          refine ⟨f, 0, by rw [e1] at hkn; exact rk_ne hkn, e1, ?_, key_mem hf, fun _ _ _ => rfl⟩
          rw [hβn f 0, key_mem hf]
      · right
        exact ⟨hg, ht, g5 g y hg ht, (hag g y hg).symm⟩
    · left
      have e1 := g6 (g - s.h.length) y
      rw [show s.h.length + (g - s.h.length) = g from by omega] at e1
      have e2 : key σ N (σ.length + (g - s.h.length)) y = (g, y) := by
        rw [key_new (by omega)]
        congr 1
        omega
      refine ⟨σ.length + (g - s.h.length), y, by rw [e1] at hkn; exact rk_ne hkn, e1, ?_, e2, fun g' y' e => ?_⟩
      · rw [hβn, e2]
      · have := (List.getElem?_eq_some_iff.1 e).1; omega
  have holdblk : ∀ g y, g < s.h.length → ¬ Tgt σ g y → (get s.h g y).known = true → ∀ f x, (get h0 f x).owned = true → (βc f x).1 ≠ (β g y).1 := by
    intro g y hg hn hkn f x ho
    obtain ⟨a1, a2, a3, a4, a5⟩ := hkey f x (Ck.known_ne (Ck.owned_known ho))
    refine hr.ft.sep _ _ g y (fun e => hn ?_) (by rw [a4, rk_owned]; exact ho) hkn
    cases e; exact a2
  have hokn : ∀ g y, g < s.h.length → ¬ Tgt σ g y → (get s.h g y).owned = true → ∀ f x, (get h0 f x).known = true → (β g y).1 ≠ (βc f x).1 := by
    intro g y hg hn ho f x hkn
    obtain ⟨a1, a2, a3, a4, a5⟩ := hkey f x (Ck.known_ne hkn)
    refine hr.ft.sep g y _ _ (fun e => hn ?_) ho (by rw [a4, rk_known]; exact hkn)
    rw [show g = (key σ N f x).1 from congrArg Prod.fst e, show y = (key σ N f x).2 from congrArg Prod.snd e]
    exact a2
  refine ⟨v.rk σ N, H', βn, ?_, hk, bel_T hbel hvb, by rw [← hN]; exact hag, by omega, ?_⟩
  · rw [he, rk_T hβn]
  refine hr.step (by omega) hag ?_ ?_ L.os L.tape L.out L.hs (fun b hb hne => L.fr b hb fun f x ho => ?_) ?_ ?_
  · constructor
    · intro g y
      by_cases hkn : get H' g y = .no
      · rw [hkn]; trivial
      · rcases hcases g y hkn with ⟨f, x, c1, c2, c3, c4, c5⟩ | ⟨d1, d2, d3, d4⟩
        · rw [c2, c3]
          exact (rk_holds hβn).2 (L.ft.ck f x)
        · rw [d3, d4]
          cases hkn : (get s.h g y).known with
          | false => exact Ck.holds_unknown hkn (hr.ft.ck g y) (hr.wf.h g y) hag
          | true =>
          have hlt := Ck.holds_lt (hr.ft.ck g y) hkn
          exact Ck.holds_agree (hr.wf.h g y) hag (Ck.holds_block (hr.ft.ck g y) (L.fr _ hlt (holdblk g y d1 d2 hkn)))
    · intro g y g' y' hne ho hkn
      have hkn0 := Ck.owned_known ho
      rcases hcases g y (Ck.known_ne hkn0) with ⟨f, x, c1, c2, c3, c4, c5⟩ | ⟨d1, d2, d3, d4⟩
      · rw [c2, rk_owned] at ho
        rcases hcases g' y' (Ck.known_ne hkn) with ⟨f', x', c1', c2', c3', c4', c5'⟩ | ⟨d1', d2', d3', d4'⟩
        · rw [c3, c3']
          refine L.ft.sep f x f' x' (fun e => hne ?_) ho (by rw [c2', rk_known] at hkn; exact hkn)
          cases e
          rw [← c4, ← c4']
        · rw [c3, d4']
          rw [d3'] at hkn
          rcases L.ow f x ho with ⟨f0, x0, o1, o2⟩ | o1
          · rw [← o2]; exact holdblk g' y' d1' d2' hkn f0 x0 o1
          · have hlt := Ck.holds_lt (hr.ft.ck g' y') hkn
            omega
      · rw [d3] at ho
        rcases hcases g' y' (Ck.known_ne hkn) with ⟨f', x', c1', c2', c3', c4', c5'⟩ | ⟨d1', d2', d3', d4'⟩
        · rw [c3', d4]
          rcases L.kn f' x' (by rw [c2', rk_known] at hkn; exact hkn) with ⟨f0, x0, o1, o2⟩ | o1
          · rw [← o2]; exact hokn g y d1 d2 ho f0 x0 o1
          · have hlt := Ck.holds_lt (hr.ft.ck g y) (Ck.owned_known ho)
            omega
        · rw [d4, d4']
          rw [d3'] at hkn
          exact hr.ft.sep g y g' y' hne ho hkn
  · intro g y
    by_cases hkn : get H' g y = .no
    · rw [hkn]; trivial
    · rcases hcases g y hkn with ⟨f, x, c1, c2, c3, c4, c5⟩ | ⟨d1, d2, d3, d4⟩
      · rw [c2]
        exact bel_Ck hbel (fun _ _ _ _ => trivial) (L.ft.flat f x) (L.wf.h f x)
      · rw [d3]; exact Ck.bel_mono (hr.wf.h g y) (by omega)
  · obtain ⟨a1, a2, a3, a4, a5⟩ := hkey f x (Ck.known_ne (Ck.owned_known ho))
    exact hne _ _ (by rw [a4, rk_owned]; exact ho)
  · intro g y ho
    rcases hcases g y (Ck.known_ne (Ck.owned_known ho)) with ⟨f, x, c1, c2, c3, c4, c5⟩ | ⟨d1, d2, d3, d4⟩
    · rw [c2, rk_owned] at ho
      rw [c3]
      rcases L.ow f x ho with ⟨f0, x0, o1, o2⟩ | o1
      · obtain ⟨a1, a2, a3, a4, a5⟩ := hkey f0 x0 (Ck.known_ne (Ck.owned_known o1))
        exact .inl ⟨_, _, by rw [a4, rk_owned]; exact o1, o2⟩
      · exact .inr o1
    · rw [d3] at ho
      exact .inl ⟨g, y, ho, by rw [d4]⟩
  · intro g y ho
    rcases hcases g y (Ck.known_ne ho) with ⟨f, x, c1, c2, c3, c4, c5⟩ | ⟨d1, d2, d3, d4⟩
    · rw [c3]
      rcases L.kn f x (by rw [c2, rk_known] at ho; exact ho) with ⟨f0, x0, o1, o2⟩ | o1
      · obtain ⟨a1, a2, a3, a4, a5⟩ := hkey f0 x0 (Ck.known_ne o1)
        exact .inl ⟨_, _, by rw [a4, rk_known]; exact o1, o2⟩
      · exact .inr o1
    · rw [d3] at ho
      exact .inl ⟨g, y, ho, by rw [d4]⟩
end Go.X

set_option linter.constructorNameAsVariable false
set_option linter.unusedVariables false
namespace Go.X

def C.belB (n : Nat) : C → Bool
  | .p f _ _ => Nat.blt f n
  | .pe f _ _ _ _ => Nat.blt f n
  | .sl f _ _ _ _ _ => Nat.blt f n
  | .mp f _ => Nat.blt f n
  | .fn _ l => l.all fun q => Nat.blt q.1 n
  | _ => true

def E.belB (n : Nat) : E → Bool
  | .c v => v.belB n
  | .a l => l.all (C.belB n)

def T.belB (n : Nat) : T → Bool
  | .c v => v.belB n
  | .a l => l.all (C.belB n)
  | .t l => l.all (E.belB n)

/-- Chunk in bounds, by reckoning. -/
def Ck.belK (n : Nat) (c : Ck) (A : Prop) : Prop :=
  match c with
  | .no => A
  | .cells _ l => ifB (l.all (C.belB n)) A
  | .row _ k _ _ m _ f => match k with
    | false => A
    | true => (∀ i, i < m → (f i).all (C.belB n) = true) ∧ A
  | .map _ k _ m f => match k with
    | false => (∀ i, i < m → (f i).2.2.flat = true) ∧ A
    | true => (∀ i, i < m → (f i).2.2.belB n = true) ∧ A
  | .iter m _ _ _ => ifB (Nat.blt m n) A

def Fam.belK (n : Nat) (m : Fam) (A : Prop) : Prop :=
  match m with
  | .one q => q.belK n A
  | .many g => (∀ x, (g x).belK n True) ∧ A

def belsK (n : Nat) : List Fam → Prop → Prop
  | [], A => A
  | m :: r, A => m.belK n (belsK n r A)

/-- Two cells are the same; and A. -/
def C.eqK (N : Nat) (u v : C) (A : Prop) : Prop :=
  match u, v with
  | .tt, .tt => A
  | .ff, .ff => A
  | .tt, .b y => y = true ∧ A
  | .ff, .b y => y = false ∧ A
  | .b x, .tt => x = true ∧ A
  | .b x, .ff => x = false ∧ A
  | .b x, .b y => x = y ∧ A
  | .i k n, .i k' n' => sameK k k' (n = n' ∧ A)
  | .s x, .s y => x = y ∧ A
  | .nilp, .nilp => A
  | .p f x o, .p g y o' => ifB (Nat.beq f g) (x = y ∧ o = o' ∧ A)
  | .pe f x z e j, .pe g y z' e' j' => ifB (Nat.beq f g) (x = y ∧ z = z' ∧ e = e' ∧ j = j' ∧ A)
  | .nils, .nils => A
  | .sl f x z o n c, .sl g y z' o' n' c' => ifB (Nat.beq f g) (x = y ∧ z = z' ∧ o = o' ∧ n = n' ∧ c = c' ∧ A)
  | .nils, .sl g _ _ _ n c => ifB (Nat.ble N g) (n = 0 ∧ c = 0 ∧ A)
  | .nilm, .nilm => A
  | .mp f x, .mp g y => ifB (Nat.beq f g) (x = y ∧ A)
  | .nilf, .nilf => A
  | .fn F l, .fn G m => ifB (Nat.beq F G) (l = m ∧ A)
  | _, _ => False

def eqL (N : Nat) : List C → List C → Prop → Prop
  | [], [], A => A
  | u :: l, v :: m, A => u.eqK N v (eqL N l m A)
  | _, _, _ => False

def E.eqK (N : Nat) (u v : E) (A : Prop) : Prop :=
  match u, v with
  | .c u, .c v => u.eqK N v A
  | .a l, .a m => eqL N l m A
  | _, _ => False

def eqE (N : Nat) : List E → List E → Prop → Prop
  | [], [], A => A
  | u :: l, v :: m, A => u.eqK N v (eqE N l m A)
  | _, _, _ => False

def T.eqK (N : Nat) (u v : T) (A : Prop) : Prop :=
  match u, v with
  | .c u, .c v => u.eqK N v A
  | .a l, .a m => eqL N l m A
  | .t l, .t m => eqE N l m A
  | _, _ => False

def sameB (a b : Bool) (A : Prop) : Prop := a = b ∧ A

/-- The first chunk says what the second says; and A. -/
def Ck.leK (N : Nat) (q q' : Ck) (A : Prop) : Prop :=
  match q' with
  | .no => A
  | .cells w' l' => match q with
    | .cells w l => sameB w w' (eqL N l l' A)
    | _ => False
  | .row w' k' e' z' n' c' f' => match q with
    | .row w k e z n c f => sameB w w' (sameB k k' (e = e' ∧ z = z' ∧ n' ≤ n ∧ c = c' ∧ (∀ i, i < n' → f i = f' i) ∧ A))
    | _ => False
  | .map w' k' ck' n' f' => match q with
    | .map w k ck n f => sameB w w' (sameB k k' (ck = ck' ∧ n = n' ∧ (∀ i, i < n' → f i = f' i) ∧ A))
    | _ => False
  | .iter m' x' ck' seen' => match q with
    | .iter m x ck seen => m = m' ∧ x = x' ∧ ck = ck' ∧ seen = seen' ∧ A
    | _ => False

def Fam.leK (N : Nat) (m m' : Fam) (A : Prop) : Prop :=
  match m' with
  | .one q' => match q' with
    | .no => A
    | q' => match m with
      | .one q => q.leK N q' A
      | _ => False
  | .many g' => match m with
    | .many g => (∀ x, (g x).leK N (g' x) True) ∧ A
    | _ => False

/-- A numeral stands for a whole family. -/
instance (n : Nat) : OfNat Sg n := ⟨.whole n⟩

/-- The n-th, or what lies behind the list's end. -/
def nthN {α : Type} : List α → Nat → (α → Prop) → Prop → Prop
  | [], _, _, B => B
  | a :: _, 0, K, _ => K a
  | _ :: l, i + 1, K, B => nthN l i K B

/-- A nil row says as much. -/
def nilLe (m' : Fam) (A : Prop) : Prop :=
  match m' with
  | .one q => match q with
    | .row _ _ _ _ n c _ => n = 0 ∧ c = 0 ∧ A
    | .no => A
    | _ => False
  | .many g => (∀ x, g x = .no) ∧ A

/-- A many family with one member that comes from elsewhere. -/
def adoptK (N : Nat) (σ0 : List Sg) (m q : Fam) (y : Nat) (m' : Fam) (A : Prop) : Prop :=
  match m' with
  | .many G' => match m with
    | .many G => match q with
      | .one c => (∀ x, x ≠ y → (G x).leK N ((G' x).rk σ0 0) True) ∧ c.leK N ((G' y).rk σ0 0) A
      | _ => False
    | _ => False
  | _ => False

def lesK (h : List Fam) (σ0 : List Sg) : List Sg → List Fam → Prop → Prop
  | [], [], A => A
  | .whole g :: σ, m' :: h', A => nthN h g (fun m => m.leK h.length (m'.rk σ0 0) (lesK h σ0 σ h' A)) (nilLe m' (lesK h σ0 σ h' A))
  | .adopt g y n :: σ, m' :: h', A => nth h g fun m => nth h n fun q => adoptK h.length σ0 m q y m' (lesK h σ0 σ h' A)
  | _, _, _ => False

def pinB : Nat → Nat → List Sg → Bool
  | 0, _, _ => true
  | m + 1, i, .whole g :: σ => Nat.beq g i && pinB m (i + 1) σ
  | _ + 1, _, _ => false

def Sg.uses (p : Sg) (g : Nat) : Bool :=
  match p with
  | .whole k => Nat.beq g k
  | .adopt k _ n => Nat.beq g k || Nat.beq g n
  | _ => false

def Sg.meets (p q : Sg) : Bool :=
  match q with
  | .whole k => p.uses k
  | .adopt k _ n => p.uses k || p.uses n
  | _ => false

def deadB : Fam → Bool
  | .one q => match q with
    | .no => true
    | _ => false
  | .many _ => false

/-- None of the later families that are taken from g is known. -/
def laterB (g : Sg) : List Sg → List Fam → Bool
  | g' :: σ, m :: h => (match g.meets g' with | true => deadB m | false => true) && laterB g σ h
  | _, _ => true

/-- No family is taken twice, but for what is forgotten. -/
def nodupD : List Sg → List Fam → Bool
  | g :: σ, m :: h => (match deadB m with | true => true | false => laterB g σ h) && nodupD σ h
  | _, _ => true

/-- Heap h is taken for h'. -/
def entH (m : Nat) (σ : List Sg) (h h' : List Fam) (A : Prop) : Prop :=
  ifB (pinB m 0 σ && nodupD σ h') (lesK h σ σ h' (belsK h'.length h' A))

def entT (N : Nat) (t : List (Nat × T)) (σ0 : List Sg) (n : Nat) : List (Nat × T) → Prop → Prop
  | [], A => A
  | (i, v) :: r, A => ifB (v.belB n) (lk t i fun u => u.eqK N (v.rk σ0 0) (entT N t σ0 n r A))

def entP (m : Nat) (σ : List Sg) (s s' : S) : Prop := entH m σ s.h s'.h (entT s.h.length s.t σ s'.h.length s'.t True)

/-! ### Soundness -/
variable {cx : Cx} {β : Nm} {s : S} {a : Act} {w : World} {P : Program} {tb : Tb}

theorem blt_lt {a b : Nat} (h : Nat.blt a b = true) : a < b := by have := Nat.le_of_ble_eq_true h; omega
theorem C.belB_bel {n : Nat} {v : C} (h : v.belB n = true) : v.bel n := by
  cases v <;> simp only [C.belB, C.bel] at h ⊢ <;> first | exact blt_lt h | (intro q hq; exact blt_lt (List.all_eq_true.1 h q hq)) | trivial
theorem T.belB_bel {n : Nat} {v : T} (h : v.belB n = true) : v.bel n := by
  cases v with
  | c v => exact C.belB_bel h
  | a l => exact fun v hv => C.belB_bel (List.all_eq_true.1 h v hv)
  | t l =>
    intro e he
    have := List.all_eq_true.1 h e he
    cases e with
    | c v => exact C.belB_bel this
    | a l => exact fun v hv => C.belB_bel (List.all_eq_true.1 this v hv)

/-- Above N every key is a nil row's. -/
def NilAbove (N : Nat) (β : Nm) : Prop := ∀ g x, N ≤ g → (β g x).2.2 = .nil

theorem eqC_of {N : Nat} {u v : C} {A : Prop} (h : u.eqK N v A) : (∀ β, NilAbove N β → u.ren β = v.ren β) ∧ A := by
  unfold C.eqK at h
  split at h <;> first
    | exact h.elim
    | exact ⟨fun _ _ => rfl, h⟩
    | (obtain ⟨rfl, h2⟩ := h; exact ⟨fun _ _ => rfl, h2⟩)
    | (obtain ⟨rfl, h1⟩ := sameK_of h; obtain ⟨rfl, h2⟩ := h1; exact ⟨fun _ _ => rfl, h2⟩)
    | (obtain ⟨hb, h1⟩ := ifB_of h; have := Nat.eq_of_beq_eq_true hb; subst this; first
        | (obtain ⟨rfl, rfl, rfl, rfl, rfl, h2⟩ := h1; exact ⟨fun _ _ => rfl, h2⟩)
        | (obtain ⟨rfl, rfl, rfl, rfl, h2⟩ := h1; exact ⟨fun _ _ => rfl, h2⟩)
        | (obtain ⟨rfl, rfl, h2⟩ := h1; exact ⟨fun _ _ => rfl, h2⟩)
        | (obtain ⟨rfl, h2⟩ := h1; exact ⟨fun _ _ => rfl, h2⟩))
    | (obtain ⟨hb, h1⟩ := ifB_of h; have := Nat.le_of_ble_eq_true hb; obtain ⟨rfl, rfl, h2⟩ := h1
       exact ⟨fun β hβ => by rw [sl_adr]; unfold adr; rw [hβ _ _ this]; rfl, h2⟩)

theorem eqL_of {N : Nat} : ∀ {l m : List C} {A : Prop}, eqL N l m A → l.length = m.length ∧ (∀ β, NilAbove N β → l.map (C.ren β) = m.map (C.ren β)) ∧ A
  | [], [], A, h => ⟨rfl, fun _ _ => rfl, h⟩
  | [], _ :: _, A, h => h.elim
  | _ :: _, [], A, h => h.elim
  | u :: l, v :: m, A, h => by
    obtain ⟨h1, h2⟩ := eqC_of h
    obtain ⟨h3, h4, h5⟩ := eqL_of h2
    exact ⟨by simp [h3], fun β hβ => by simp [h1 β hβ, h4 β hβ], h5⟩

theorem eqE_of {N : Nat} : ∀ {l m : List E} {A : Prop}, eqE N l m A → (∀ β, NilAbove N β → l.map (E.ren β) = m.map (E.ren β)) ∧ A
  | [], [], A, h => ⟨fun _ _ => rfl, h⟩
  | [], _ :: _, A, h => h.elim
  | _ :: _, [], A, h => h.elim
  | u :: l, v :: m, A, h => by
    have : (∀ β, NilAbove N β → u.ren β = v.ren β) ∧ eqE N l m A := by
      have h : u.eqK N v (eqE N l m A) := h
      cases u <;> cases v <;> first | exact h.elim | skip
      · exact eqC_of h
      · obtain ⟨_, h4, h5⟩ := eqL_of h
        exact ⟨fun β hβ => by simp [E.ren, renL, h4 β hβ], h5⟩
    obtain ⟨h4, h5⟩ := eqE_of this.2
    exact ⟨fun β hβ => by simp [this.1 β hβ, h4 β hβ], h5⟩

theorem eqT_of {N : Nat} {u v : T} {A : Prop} (h : u.eqK N v A) : (∀ β, NilAbove N β → u.ren β = v.ren β) ∧ A := by
  cases u <;> cases v <;> first | exact h.elim | skip
  · exact eqC_of h
  · obtain ⟨_, h4, h5⟩ := eqL_of h
    exact ⟨fun β hβ => by simp [T.ren, renL, h4 β hβ], h5⟩
  · obtain ⟨h4, h5⟩ := eqE_of h
    exact ⟨fun β hβ => by simp [T.ren, h4 β hβ], h5⟩

theorem sameB_of {a b : Bool} {A : Prop} (h : sameB a b A) : a = b ∧ A := by
  exact h

/-- What follows from a chunk that says as much. -/
structure Ck.Le (N : Nat) (q q' : Ck) : Prop where
  holds : ∀ β w A, NilAbove N β → q.holds β w A → q'.holds β w A
  owned : q'.owned = true → q.owned = true
  known : q'.known = true → q.known = true

theorem leK_of {N : Nat} {q q' : Ck} {A : Prop} (h : q.leK N q' A) : q.Le N q' ∧ A := by
  unfold Ck.leK at h
  split at h
  · exact ⟨⟨fun _ _ _ _ _ => trivial, fun h => (by cases h), fun h => (by cases h)⟩, h⟩
  · split at h
    · obtain ⟨rfl, h0⟩ := sameB_of h
      obtain ⟨h1, h2, h3⟩ := eqL_of h0
      refine ⟨⟨fun β w A hβ ⟨cur, e, fz, hb, hc, ho⟩ => ⟨cur, e, fz, hb, fun j v hj => ?_, ho⟩, fun h => h, fun _ => rfl⟩, h3⟩
      have := congrArg (·[j]?) (h2 β hβ)
      simp only [List.getElem?_map, hj, Option.map_some] at this
      obtain ⟨u, hu, he⟩ := Option.map_eq_some_iff.1 this
      rw [hc j u hu, he]
    · exact h.elim
  · split at h
    · obtain ⟨rfl, h0⟩ := sameB_of h
      obtain ⟨rfl, rfl, rfl, hnn, rfl, hf, hA⟩ := sameB_of h0
      refine ⟨⟨fun β w A _ ⟨q1, q2, q3, q4, q5⟩ => ⟨Nat.le_trans hnn q1, q2, fun hk' i hi => ?_, fun i hi => ?_, fun h0 => ?_⟩, fun h => h, fun h => h⟩, hA⟩
      · rw [← hf i hi]; exact q3 hk' i (by omega)
      · rw [← hf i hi]; exact q4 i (by omega)
      · obtain ⟨cur, te, fz, hb, hc, ho⟩ := q5 h0
        exact ⟨cur, te, fz, hb, fun i hi => by rw [← hf i hi]; exact hc i (by omega), ho⟩
    · exact h.elim
  · split at h
    · obtain ⟨rfl, h0⟩ := sameB_of h
      obtain ⟨rfl, h1⟩ := sameB_of h0
      obtain ⟨rfl, rfl, hf, hA⟩ := h1
      refine ⟨⟨fun β w A _ ⟨⟨es, q1, q2, q3⟩, q4, q5, q6⟩ => ⟨⟨es, q1, q2, fun i hi => by rw [← hf i hi]; exact q3 i hi⟩, fun i hi => by rw [← hf i hi]; exact q4 i hi, fun i j hij hj => by rw [← hf i (by omega), ← hf j hj]; exact q5 i j hij hj, fun hk i hi => by rw [← hf i hi]; exact q6 hk i hi⟩, fun h => h, fun h => h⟩, hA⟩
    · exact h.elim
  · split at h
    · obtain ⟨rfl, rfl, rfl, rfl, hA⟩ := h
      exact ⟨⟨fun β w A _ hh => hh, fun h => h, fun h => h⟩, hA⟩
    · exact h.elim

theorem Ck.Le.no {N : Nat} (q : Ck) : q.Le N .no := ⟨fun _ _ _ _ _ => trivial, fun h => (by cases h), fun h => (by cases h)⟩

theorem famLe_of {N : Nat} {m m' : Fam} {A : Prop} (h : m.leK N m' A) : (∀ x, (m.at x).Le N (m'.at x)) ∧ A := by
  unfold Fam.leK at h
  split at h
  · split at h
    · exact ⟨fun x => by cases x <;> exact Ck.Le.no _, h⟩
    · split at h
      · obtain ⟨h1, h2⟩ := leK_of h
        exact ⟨fun x => by cases x with | zero => exact h1 | succ x => exact Ck.Le.no _, h2⟩
      · exact h.elim
  · split at h
    · exact ⟨fun x => (leK_of (h.1 x)).1, h.2⟩
    · exact h.elim

theorem nthN_of {α : Type} : ∀ {l : List α} {i : Nat} {K : α → Prop} {B : Prop}, nthN l i K B → (∃ v, l[i]? = some v ∧ K v) ∨ (l.length ≤ i ∧ B)
  | [], i, K, B, h => .inr ⟨by simp, h⟩
  | a :: l, 0, K, B, h => .inl ⟨a, rfl, h⟩
  | a :: l, i + 1, K, B, h => by
    rcases nthN_of (l := l) h with ⟨v, hv, hk⟩ | ⟨hl, hb⟩
    · exact .inl ⟨v, by simpa using hv, hk⟩
    · exact .inr ⟨by simp; omega, hb⟩

/-- A chunk of a nil row. -/
def NilCk (q : Ck) : Prop := q = .no ∨ ∃ own k e z f, q = .row own k e z 0 0 f
theorem NilCk.unknown {q : Ck} (h : NilCk q) : q.known = false := by
  rcases h with rfl | ⟨own, k, e, z, f, rfl⟩ <;> rfl
theorem NilCk.unowned {q : Ck} (h : NilCk q) : q.owned = false := by
  rcases h with rfl | ⟨own, k, e, z, f, rfl⟩
  · rfl
  · cases own <;> rfl
theorem NilCk.holds {q : Ck} (h : NilCk q) (β : Nm) (w : World) (A : Nat × Nat × Fl) : q.holds β w A := by
  rcases h with rfl | ⟨own, k, e, z, f, rfl⟩
  · trivial
  · exact ⟨Nat.le_refl _, fun _ => rfl, fun _ i hi => by omega, fun i hi => by omega, fun h => absurd rfl h⟩
theorem nilLe_of {m' : Fam} {A : Prop} (h : nilLe m' A) : (∀ x, NilCk (m'.at x)) ∧ A := by
  unfold nilLe at h
  split at h
  · split at h
    · obtain ⟨rfl, rfl, hA⟩ := h
      exact ⟨fun x => by cases x with | zero => exact .inr ⟨_, _, _, _, _, rfl⟩ | succ x => exact .inl rfl, hA⟩
    · exact ⟨fun x => by cases x <;> exact .inl rfl, h⟩
    · exact h.elim
  · exact ⟨fun x => .inl (h.1 x), h.2⟩

theorem lesK_of {h : List Fam} {σ0 : List Sg} : ∀ {σ : List Sg} {h' : List Fam} {A : Prop}, lesK h σ0 σ h' A →
    σ.length = h'.length ∧ (∀ f x : Nat, f < σ.length → ((key σ 0 f x).1 < h.length ∧ (get h (key σ 0 f x).1 (key σ 0 f x).2).Le h.length ((get h' f x).rk σ0 0)) ∨ (∃ q, σ[f]? = some q ∧ q.uses (key σ 0 f x).1 = true ∧ NilCk (get h' f x))) ∧
      (∀ f g y n : Nat, σ[f]? = some (.adopt g y n) → g ≠ n) ∧ (∀ q ∈ σ, q.nm = false ∧ ∀ g y, q ≠ .mem g y) ∧ A
  | [], [], A, hh => ⟨rfl, by simp, by simp, by simp, hh⟩
  | [], _ :: _, A, hh => hh.elim
  | .whole _ :: _, [], A, hh => hh.elim
  | .adopt _ _ _ :: _, [], A, hh => hh.elim
  | .mem _ _ :: _, l, A, hh => by cases l <;> exact hh.elim
  | .name _ :: _, l, A, hh => by cases l <;> exact hh.elim
  | .whole g :: σ, m' :: h', A, hh => by
    rcases nthN_of hh with ⟨m, hm, h1⟩ | ⟨hgl, h1⟩
    · obtain ⟨h2, h3⟩ := famLe_of h1
      obtain ⟨i1, i2, i3, i5, i4⟩ := lesK_of h3
      refine ⟨by simp [i1], fun f x hf => ?_, fun f g' y n hf => ?_, ?_, i4⟩
      · cases f with
        | zero =>
          left
          refine ⟨(List.getElem?_eq_some_iff.1 hm).1, ?_⟩
          have := h2 x
          rw [rk_at] at this
          simpa [get, hm, key] using this
        | succ f => simpa [get, key] using i2 f x (by simpa using hf)
      · cases f with
        | zero => simp at hf
        | succ f => exact i3 f g' y n (by simpa using hf)
      · intro q hq
        rcases List.mem_cons.1 hq with rfl | hq
        · exact ⟨rfl, by simp⟩
        · exact i5 q hq
    · obtain ⟨h2, h3⟩ := nilLe_of h1
      obtain ⟨i1, i2, i3, i5, i4⟩ := lesK_of h3
      refine ⟨by simp [i1], fun f x hf => ?_, fun f g' y n hf => ?_, ?_, i4⟩
      · cases f with
        | zero =>
          right
          exact ⟨.whole g, by simp, by simp [key, Sg.uses], by simpa [get] using h2 x⟩
        | succ f => simpa [get, key] using i2 f x (by simpa using hf)
      · cases f with
        | zero => simp at hf
        | succ f => exact i3 f g' y n (by simpa using hf)
      · intro q hq
        rcases List.mem_cons.1 hq with rfl | hq
        · exact ⟨rfl, by simp⟩
        · exact i5 q hq
  | .adopt g y n :: σ, m' :: h', A, hh => by
    obtain ⟨m, hm, hh⟩ := nth_of hh
    obtain ⟨q, hq, hh⟩ := nth_of hh
    unfold adoptK at hh
    split at hh
    · rename_i G'
      split at hh
      · rename_i G
        split at hh
        · rename_i c
          obtain ⟨h1, h2⟩ := hh
          obtain ⟨h3, h4⟩ := leK_of h2
          obtain ⟨i1, i2, i3, i5, i4⟩ := lesK_of h4
          refine ⟨by simp [i1], fun f x hf => ?_, fun f g' y' n' hf => ?_, ?_, i4⟩
          · cases f with
            | zero =>
              left
              by_cases hx : x = y
              · subst hx
                simp only [key, if_true]
                refine ⟨(List.getElem?_eq_some_iff.1 hq).1, ?_⟩
                simpa [get, hq, Fam.at] using h3
              · simp only [key, if_neg hx]
                refine ⟨(List.getElem?_eq_some_iff.1 hm).1, ?_⟩
                have := (leK_of (h1 x hx)).1
                simpa [get, hm, Fam.at] using this
            | succ f => simpa [get, key] using i2 f x (by simpa using hf)
          · cases f with
            | zero =>
              simp at hf
              obtain ⟨rfl, rfl, rfl⟩ := hf
              intro e
              subst e
              rw [hm] at hq
              cases hq
            | succ f => exact i3 f g' y' n' (by simpa using hf)
          · intro q hq
            rcases List.mem_cons.1 hq with rfl | hq
            · exact ⟨rfl, by simp⟩
            · exact i5 q hq
        · exact hh.elim
      · exact hh.elim
    · exact hh.elim

theorem pinB_of : ∀ {m i : Nat} {σ : List Sg}, pinB m i σ = true → ∀ f, f < m → σ[f]? = some (.whole (i + f))
  | 0, _, _, _, f, hf => by omega
  | m + 1, i, [], h, f, hf => by cases h
  | m + 1, i, .mem _ _ :: σ, h, f, hf => by cases h
  | m + 1, i, .name _ :: σ, h, f, hf => by cases h
  | m + 1, i, .adopt _ _ _ :: σ, h, f, hf => by cases h
  | m + 1, i, .whole g :: σ, h, f, hf => by
    obtain ⟨h1, h2⟩ := Bool.and_eq_true_iff.1 h
    have := Nat.eq_of_beq_eq_true h1
    cases f with
    | zero => simp [this]
    | succ f =>
      have := pinB_of h2 f (by omega)
      rw [List.getElem?_cons_succ, this]
      congr 2; omega

theorem meets_of {p q : Sg} {g : Nat} (h1 : p.uses g = true) (h2 : q.uses g = true) : p.meets q = true := by
  cases q with
  | whole k => have := Nat.eq_of_beq_eq_true h2; subst this; exact h1
  | adopt k y n =>
    rcases (Bool.or_eq_true _ _).mp h2 with e | e
    · have := Nat.eq_of_beq_eq_true e; subst this; exact (Bool.or_eq_true _ _).mpr (.inl h1)
    · have := Nat.eq_of_beq_eq_true e; subst this; exact (Bool.or_eq_true _ _).mpr (.inr h1)
  | mem k y => cases h2
  | name k => cases h2

theorem key_uses {σ : List Sg} {f : Nat} (hs : ∀ q ∈ σ, q.nm = false ∧ ∀ g y, q ≠ .mem g y) {q : Sg} (hq : σ[f]? = some q) (x : Nat) : q.uses (key σ 0 f x).1 = true := by
  have hm := hs q (List.mem_of_getElem? hq)
  cases q with
  | whole g => rw [key_whole hq]; exact Nat.beq_refl _
  | adopt g y n =>
    rw [key_adopt hq]
    by_cases h : x = y
    · simp [h, Sg.uses]
    · simp [h, Sg.uses]
  | mem g y => exact absurd rfl (hm.2 g y)
  | name g => exact absurd hm.1 (by simp [Sg.nm])

theorem belK_of {n : Nat} {c : Ck} {A : Prop} (h : c.belK n A) (hf : ∀ own e z m cc g, c = .row own false e z m cc g → ∀ i, i < m → ∀ v ∈ g i, v.flat = true) : c.bel n ∧ A := by
  cases c with
  | no => exact ⟨trivial, h⟩
  | cells w l =>
    obtain ⟨h1, h2⟩ := ifB_of h
    exact ⟨fun v hv => C.belB_bel (List.all_eq_true.1 h1 v hv), h2⟩
  | row w k e z m cc g =>
    cases k with
    | false =>
      refine ⟨fun i hi v hv => ?_, h⟩
      have := hf w e z m cc g rfl i hi v hv
      cases v <;> simp_all [C.flat, C.bel]
    | true => exact ⟨fun i hi v hv => C.belB_bel (List.all_eq_true.1 (h.1 i hi) v hv), h.2⟩
  | map w k ck m f =>
    cases k with
    | false => exact ⟨fun i hi => h.1 i hi, h.2⟩
    | true =>
      refine ⟨fun i hi => ?_, h.2⟩
      have := h.1 i hi
      show (f i).2.2.bel n
      cases hv : (f i).2.2 with
      | c v => rw [hv] at this; exact C.belB_bel this
      | a l => rw [hv] at this; exact fun v hv => C.belB_bel (List.all_eq_true.1 this v hv)
  | iter m x ck seen =>
    obtain ⟨h1, h2⟩ := ifB_of h
    exact ⟨blt_lt h1, h2⟩

theorem belsK_of {n : Nat} : ∀ {h : List Fam} {A : Prop}, belsK n h A → (∀ f x, ∀ own e z m cc g, get h f x = .row own false e z m cc g → ∀ i, i < m → ∀ v ∈ g i, v.flat = true) → (∀ f x, (get h f x).bel n) ∧ A
  | [], A, hh, _ => ⟨fun f x => by simp [get, Ck.bel], hh⟩
  | m :: r, A, hh, hf => by
    have h1 : (∀ x, (m.at x).bel n) ∧ belsK n r A := by
      have hh : m.belK n (belsK n r A) := hh
      cases m with
      | one q =>
        obtain ⟨h1, h2⟩ := belK_of hh (fun own e z m cc g hq => hf 0 0 own e z m cc g (by simp [get, Fam.at, hq]))
        exact ⟨fun x => by cases x with | zero => exact h1 | succ x => trivial, h2⟩
      | many g =>
        exact ⟨fun x => (belK_of (hh.1 x) (fun own e z m cc g' hq => hf 0 x own e z m cc g' (by simp [get, Fam.at, hq]))).1, hh.2⟩
    obtain ⟨h2, h3⟩ := belsK_of h1.2 (fun f x => by have := hf (f + 1) x; simpa [get] using this)
    refine ⟨fun f x => ?_, h3⟩
    cases f with
    | zero => simpa [get] using h1.1 x
    | succ f => simpa [get] using h2 f x

/-- Above the heap's keys, names are free. -/
def nilUp (β : Nm) (N : Nat) : Nm := fun g x => if g < N then β g x else (0, 0, .nil)
theorem nilUp_above (β : Nm) (N : Nat) : NilAbove N (nilUp β N) := fun g x hg => by unfold nilUp; rw [if_neg (by omega)]
theorem nilUp_agree (β : Nm) (N : Nat) : Agree N β (nilUp β N) := fun g x hg => by unfold nilUp; rw [if_pos hg]

theorem Rel.rename (hr : Rel cx β s a w) {β' : Nm} (hag : Agree s.h.length β β') : Rel cx β' s a w := by
  have hlt : ∀ f x, get s.h f x ≠ .no → β f x = β' f x := fun f x h => hag f x (get_lt h)
  refine hr.step (β' := β') (h' := s.h) (Nat.le_refl _) hag ⟨fun f x => ?_, fun f x g y hne ho hk => ?_⟩ hr.wf.h rfl rfl rfl (Nat.le_refl _) (fun _ _ _ => rfl) (fun f x ho => ?_) (fun f x ho => ?_)
  · by_cases h : get s.h f x = .no
    · rw [h]; trivial
    · rw [← hlt f x h]; exact Ck.holds_agree (hr.wf.h f x) hag (hr.ft.ck f x)
  · rw [← hlt f x (Ck.known_ne (Ck.owned_known ho)), ← hlt g y (Ck.known_ne hk)]; exact hr.ft.sep f x g y hne ho hk
  · exact .inl ⟨f, x, ho, by rw [hlt f x (Ck.known_ne (Ck.owned_known ho))]⟩
  · exact .inl ⟨f, x, ho, by rw [hlt f x (Ck.known_ne ho)]⟩

theorem deadB_get {h : List Fam} {f x : Nat} {m : Fam} (hm : h[f]? = some m) (hd : deadB m = true) : get h f x = .no := by
  unfold get
  rw [hm]
  unfold deadB at hd
  cases m with
  | one q => cases q <;> first | (cases x <;> rfl) | cases hd
  | many g => cases hd

theorem laterB_of : ∀ {g : Sg} {σ : List Sg} {h : List Fam}, laterB g σ h = true → ∀ (j : Nat) (q : Sg) (m : Fam), σ[j]? = some q → g.meets q = true → h[j]? = some m → deadB m = true
  | g, [], h, _, j, q, m, hj, _, _ => by simp at hj
  | g, g' :: σ, [], _, j, q, m, _, _, hm => by simp at hm
  | g, g' :: σ, m0 :: h, hl, j, q, m, hj, hme, hm => by
    unfold laterB at hl
    obtain ⟨h1, h2⟩ := Bool.and_eq_true_iff.1 hl
    cases j with
    | zero =>
      simp at hj hm
      subst hj hm
      rw [hme] at h1
      exact h1
    | succ j => exact laterB_of h2 j q m (by simpa using hj) hme (by simpa using hm)

theorem nodupD_of : ∀ {σ : List Sg} {h : List Fam}, nodupD σ h = true → ∀ (i j : Nat) (p q : Sg) (m m' : Fam), i < j → σ[i]? = some p → σ[j]? = some q → p.meets q = true → h[i]? = some m → h[j]? = some m' → deadB m = true ∨ deadB m' = true
  | [], h, _, i, j, p, q, m, m', _, hi, _, _, _, _ => by simp at hi
  | g0 :: σ, [], _, i, j, p, q, m, m', _, _, _, _, hm, _ => by simp at hm
  | g0 :: σ, m0 :: h, hn, i, j, p, q, m, m', hij, hi, hj, hme, hm, hm' => by
    unfold nodupD at hn
    obtain ⟨h1, h2⟩ := Bool.and_eq_true_iff.1 hn
    cases j with
    | zero => omega
    | succ j =>
      cases i with
      | zero =>
        simp at hi hm
        subst hi hm
        cases hd : deadB m0 with
        | true => exact .inl rfl
        | false =>
          rw [hd] at h1
          exact .inr (laterB_of h1 j q m' (by simpa using hj) hme (by simpa using hm'))
      | succ i => exact nodupD_of h2 i j p q m m' (by omega) (by simpa using hi) (by simpa using hj) hme (by simpa using hm) (by simpa using hm')

/-- The heap taken for another. -/
theorem entH_of (hr0 : Rel cx β s a w) {σ : List Sg} {h' : List Fam} {A : Prop} (h : entH cx.m σ s.h h' A) :
    ∃ β1 β', Rel cx β1 s a w ∧ Agree s.h.length β β1 ∧ NilAbove s.h.length β1 ∧ (∀ f x, β' f x = β1 (key σ 0 f x).1 (key σ 0 f x).2) ∧ (∀ t' : List (Nat × T), (∀ i v, find t' i = some v → v.bel h'.length ∧ a.tmps[i]? = some (v.ren β')) → Rel cx β' ⟨t', h'⟩ a w) ∧ A := by
  have hr : Rel cx (nilUp β s.h.length) s a w := hr0.rename (nilUp_agree β _)
  have hna := nilUp_above β s.h.length
  have hag1 := nilUp_agree β s.h.length
  generalize nilUp β s.h.length = β1 at hr hna hag1
  obtain ⟨hb, h⟩ := ifB_of h
  obtain ⟨hpin, hnd⟩ := Bool.and_eq_true_iff.1 hb
  obtain ⟨hlen, hle, hadn, hsg, h⟩ := lesK_of h
  let β' : Nm := fun f x => β1 (key σ 0 f x).1 (key σ 0 f x).2
  have hβ : ∀ f x, β' f x = β1 (key σ 0 f x).1 (key σ 0 f x).2 := fun _ _ => rfl
  have hmap : ∀ f x, get h' f x ≠ .no → f < σ.length ∧ ((get s.h (key σ 0 f x).1 (key σ 0 f x).2).Le s.h.length ((get h' f x).rk σ 0) ∨ NilCk (get h' f x)) := by
    intro f x hk
    have hf : f < σ.length := by rw [hlen]; exact get_lt hk
    rcases hle f x hf with h1 | ⟨_, _, _, h1⟩
    · exact ⟨hf, .inl h1.2⟩
    · exact ⟨hf, .inr h1⟩
  have hkn : ∀ f x, (get h' f x).known = true → f < σ.length ∧ (get s.h (key σ 0 f x).1 (key σ 0 f x).2).Le s.h.length ((get h' f x).rk σ 0) := by
    intro f x hk
    obtain ⟨hf, hl | hl⟩ := hmap f x (Ck.known_ne hk)
    · exact ⟨hf, hl⟩
    · rw [hl.unknown] at hk; cases hk
  have hft : Fits β' h' w := by
    constructor
    · intro f x
      by_cases hk : get h' f x = .no
      · rw [hk]; trivial
      · obtain ⟨hf, hl | hl⟩ := hmap f x hk
        · rw [hβ]
          exact (rk_holds hβ).1 (hl.holds _ _ _ hna (hr.ft.ck _ _))
        · exact hl.holds _ _ _
    · intro f x f' x' hne ho hk
      obtain ⟨hf, hl⟩ := hkn f x (Ck.owned_known ho)
      obtain ⟨hf', hl'⟩ := hkn f' x' hk
      rw [hβ, hβ]
      refine hr.ft.sep _ _ _ _ (fun e => hne ?_) (hl.owned (by rw [rk_owned]; exact ho)) (hl'.known (by rw [rk_known]; exact hk))
      have e1 : (key σ 0 f x).1 = (key σ 0 f' x').1 := congrArg Prod.fst e
      have e2 : (key σ 0 f x).2 = (key σ 0 f' x').2 := congrArg Prod.snd e
      have hq := List.getElem?_eq_getElem hf
      have hq' := List.getElem?_eq_getElem hf'
      have hfh : f < h'.length := by omega
      have hfh' : f' < h'.length := by omega
      have hkf := Ck.owned_known ho
      by_cases hff : f = f'
      · subst hff
        congr 1
        cases hc : σ[f] with
        | whole g => rw [hc] at hq; rw [key_whole hq, key_whole hq] at e2; exact e2
        | adopt g y n =>
          rw [hc] at hq
          have hgn := hadn f g y n hq
          rw [key_adopt hq, key_adopt hq] at e1 e2
          simp only at e1 e2
          by_cases hx : x = y
          · by_cases hx' : x' = y
            · rw [hx, hx']
            · rw [if_pos hx, if_neg hx'] at e1; exact absurd e1.symm hgn
          · by_cases hx' : x' = y
            · rw [if_neg hx, if_pos hx'] at e1; exact absurd e1 hgn
            · rw [if_neg hx, if_neg hx'] at e2; exact e2
        | mem g y => exact absurd hc ((hsg _ (List.getElem_mem hf)).2 g y)
        | name g => have := (hsg _ (List.getElem_mem hf)).1; rw [hc] at this; cases this
      · exfalso
        have hm : σ[f].meets σ[f'] = true := meets_of (key_uses hsg hq x) (by rw [e1]; exact key_uses hsg hq' x')
        have hm' : σ[f'].meets σ[f] = true := meets_of (by rw [e1]; exact key_uses hsg hq' x') (key_uses hsg hq x)
        have hd : deadB h'[f] = true ∨ deadB h'[f'] = true := by
          rcases Nat.lt_or_gt_of_ne hff with hlt | hlt
          · exact nodupD_of hnd f f' _ _ _ _ hlt hq hq' hm (List.getElem?_eq_getElem hfh) (List.getElem?_eq_getElem hfh')
          · exact (nodupD_of hnd f' f _ _ _ _ hlt hq' hq hm' (List.getElem?_eq_getElem hfh') (List.getElem?_eq_getElem hfh)).symm
        rcases hd with hd | hd
        · rw [deadB_get (List.getElem?_eq_getElem hfh) hd] at hkf; cases hkf
        · rw [deadB_get (List.getElem?_eq_getElem hfh') hd] at hk; cases hk
  obtain ⟨hbel, hA⟩ := belsK_of h (fun f x => hft.flat f x)
  refine ⟨β1, β', hr, hag1, hna, hβ, fun t' ht' => ?_, hA⟩
  refine ⟨hr.dfr, hr.sz, ⟨fun i v hv => (ht' i v hv).2⟩, hft, ⟨fun i v hv => (ht' i v hv).1, hbel⟩, ?_, fun f x hf => ?_, hr.os, hr.tape, hr.out, hr.hs, hr.fr, fun f x ho => ?_, fun f x hk => ?_⟩
  · show cx.m ≤ h'.length
    rw [← hlen]
    by_cases h0 : cx.m = 0
    · omega
    · have := (List.getElem?_eq_some_iff.1 (pinB_of hpin (cx.m - 1) (by omega))).1
      omega
  · have := pinB_of hpin f hf
    rw [Nat.zero_add] at this
    rw [hβ, key_whole this]
    exact hr.pin f x hf
  · obtain ⟨_, hl⟩ := hkn f x (Ck.owned_known ho)
    rw [hβ]
    exact hr.ow _ _ (hl.owned (by rw [rk_owned]; exact ho))
  · obtain ⟨_, hl⟩ := hkn f x hk
    rw [hβ]
    exact hr.kn _ _ (hl.known (by rw [rk_known]; exact hk))

theorem entT_of {N : Nat} {t : List (Nat × T)} {σ0 : List Sg} {n : Nat} : ∀ {t' : List (Nat × T)} {A : Prop}, entT N t σ0 n t' A →
    (∀ i v, find t' i = some v → v.bel n ∧ ∃ u, find t i = some u ∧ ∀ β, NilAbove N β → u.ren β = (v.rk σ0 0).ren β) ∧ A
  | [], A, h => ⟨fun i v hv => (by cases hv), h⟩
  | (j, v) :: r, A, h => by
    obtain ⟨h1, h2⟩ := ifB_of h
    obtain ⟨u, hu, h3⟩ := lk_of h2
    obtain ⟨h4, h5⟩ := eqT_of h3
    obtain ⟨h6, h7⟩ := entT_of h5
    refine ⟨fun i v' hv' => ?_, h7⟩
    unfold find at hv'
    split at hv'
    · rename_i he
      subst he
      cases hv'
      exact ⟨T.belB_bel h1, u, hu, h4⟩
    · exact h6 i v' hv'

theorem entP_of (hr : Rel cx β s a w) {σ : List Sg} {s' : S} (h : entP cx.m σ s s') : ∃ β', Rel cx β' s' a w := by
  obtain ⟨β1, β', hr1, _, hna, hβ, hrel, hT⟩ := entH_of hr h
  obtain ⟨ht, _⟩ := entT_of hT
  refine ⟨β', hrel s'.t fun i v hv => ?_⟩
  obtain ⟨h1, u, hu, he⟩ := ht i v hv
  exact ⟨h1, by rw [hr1.tm.tm i u hu, he β1 hna, rk_T hβ]⟩
end Go.X

set_option linter.constructorNameAsVariable false
set_option linter.unusedVariables false
namespace Go.X
variable {cx : Cx} {β : Nm} {s : S} {a : Act} {w : World} {P : Program} {tb : Tb}

def setF : List Fam → Nat → Fam → Option (List Fam)
  | [], _, _ => none
  | _ :: l, 0, m => some (m :: l)
  | a :: l, g + 1, m => (setF l g m).map (a :: ·)

def updF : List Fam → Nat → Nat → Ck → Option (List Fam)
  | [], _, _, _ => none
  | .one _ :: l, 0, 0, ck => some (.one ck :: l)
  | .one _ :: _, 0, _ + 1, _ => none
  | .many g :: l, 0, x, ck => some (.many (fun y => if y = x then ck else g y) :: l)
  | a :: l, f + 1, x, ck => (updF l f x ck).map (a :: ·)

def Fam.zeroth : Fam → Ck
  | .one q => q
  | .many g => g 0

def givesF (σ0 : List Sg) (N : Nat) : List Fam → List Sg → List Fam → Option (List Fam)
  | H, [], h' => some (H ++ h'.map (Fam.rk σ0 N))
  | H, .whole g :: r, m :: h' => (setF H g (m.rk σ0 N)).bind fun H' => givesF σ0 N H' r h'
  | H, .mem g y :: r, m :: h' => (updF H g y (m.zeroth.rk σ0 N)).bind fun H' => givesF σ0 N H' r h'
  | H, .name _ :: r, _ :: h' => givesF σ0 N H r h'
  | _, .adopt _ _ _ :: _, _ :: _ => none
  | _, _ :: _, [] => none

theorem setF_of : ∀ {l : List Fam} {g : Nat} {m : Fam} {l' : List Fam} {K : List Fam → Prop}, setF l g m = some l' → K l' → gives.setK l g m K
  | [], _, _, _, _, h, _ => by simp [setF] at h
  | a :: l, 0, m, l', K, h, hk => by simp only [setF, Option.some.injEq] at h; subst h; exact hk
  | a :: l, g + 1, m, l', K, h, hk => by
    simp only [setF, Option.map_eq_some_iff] at h
    obtain ⟨q, hq, rfl⟩ := h
    exact setF_of (K := fun l' => K (a :: l')) hq hk

theorem updF_of : ∀ {l : List Fam} {f x : Nat} {ck : Ck} {l' : List Fam} {K : List Fam → Prop}, updF l f x ck = some l' → K l' → updK l f x ck K
  | [], _, _, _, _, _, h, _ => by simp [updF] at h
  | .one q :: l, 0, 0, ck, l', K, h, hk => by simp only [updF, Option.some.injEq] at h; subst h; exact hk
  | .one q :: l, 0, x + 1, ck, l', K, h, hk => by simp [updF] at h
  | .many g :: l, 0, x, ck, l', K, h, hk => by simp only [updF, Option.some.injEq] at h; subst h; exact hk
  | .one q :: l, f + 1, x, ck, l', K, h, hk => by
    simp only [updF, Option.map_eq_some_iff] at h
    obtain ⟨q, hq, rfl⟩ := h
    exact updF_of (K := fun l' => K (_ :: l')) hq hk
  | .many q :: l, f + 1, x, ck, l', K, h, hk => by
    simp only [updF, Option.map_eq_some_iff] at h
    obtain ⟨q, hq, rfl⟩ := h
    exact updF_of (K := fun l' => K (_ :: l')) hq hk

theorem givesF_of {σ0 : List Sg} {N : Nat} : ∀ {σ : List Sg} {H h' : List Fam} {H' : List Fam} {K : List Fam → Prop}, givesF σ0 N H σ h' = some H' → K H' → gives σ0 N H σ h' K
  | [], H, h', H', K, h, hk => by simp only [givesF, Option.some.injEq] at h; subst h; unfold gives; exact hk
  | .whole g :: r, H, [], H', K, h, hk => by simp [givesF] at h
  | .mem g y :: r, H, [], H', K, h, hk => by simp [givesF] at h
  | .name g :: r, H, [], H', K, h, hk => by simp [givesF] at h
  | .adopt a b c :: r, H, [], H', K, h, hk => by simp [givesF] at h
  | .adopt a b c :: r, H, _ :: _, H', K, h, hk => by simp [givesF] at h
  | .name g :: r, H, m :: h', H', K, h, hk => by
    simp only [givesF] at h
    unfold gives
    exact givesF_of h hk
  | .whole g :: r, H, m :: h', H', K, h, hk => by
    simp only [givesF, Option.bind_eq_some_iff] at h
    obtain ⟨H1, h1, h2⟩ := h
    unfold gives
    exact setF_of h1 (givesF_of h2 hk)
  | .mem g y :: r, H, m :: h', H', K, h, hk => by
    simp only [givesF, Option.bind_eq_some_iff] at h
    obtain ⟨H1, h1, h2⟩ := h
    unfold gives
    cases m with
    | one q => exact updF_of h1 (givesF_of h2 hk)
    | many g => exact ManyK.here (updF_of h1 (givesF_of h2 hk))


/-- Nothing is told of a family. -/
def Fam.noneK (m : Fam) (A : Prop) : Prop :=
  match m with
  | .one q => match q with
    | .no => A
    | _ => False
  | .many g => (∀ x, g x = .no) ∧ A

theorem noneK_of {m : Fam} {A : Prop} (h : m.noneK A) : (∀ x, m.at x = .no) ∧ A := by
  unfold Fam.noneK at h
  split at h
  · split at h
    · exact ⟨fun x => by cases x <;> rfl, h⟩
    · exact h.elim
  · exact h

/-- What the callee is to find lies there. -/
def leS (N : Nat) (H : List Fam) (σ0 : List Sg) (N1 : Nat) : List Sg → List Fam → Prop → Prop
  | [], [], A => A
  | .whole g :: r, m :: h, A => nth H g fun M => M.leK N (m.rk σ0 N1) (leS N H σ0 N1 r h A)
  | .mem g y :: r, .one q :: h, A => nth H g fun M => M.atK y fun ck => ck.leK N (q.rk σ0 N1) (leS N H σ0 N1 r h A)
  | .name g :: r, m :: h, A => nth H g fun _ => m.noneK (leS N H σ0 N1 r h A)
  | _, _, _ => False

def argsK (N : Nat) : List T → List T → Prop → Prop
  | [], [], A => A
  | u :: l, v :: m, A => u.eqK N v (argsK N l m A)
  | _, _, _ => False

def nilB : Fam → Bool
  | .one q => match q with
    | .no => true
    | .row _ _ _ _ n c _ => Nat.beq n 0 && Nat.beq c 0
    | _ => false
  | .many _ => false

/-- What is to be shown behind a call. -/
def RetG (σ : List Sg) (H h' : List Fam) (v : T) (K : T → List Fam → Prop) : Prop := gives σ H.length H σ h' fun H' => K (v.rk σ H.length) H'

/-- A call by contract. -/
structure CallK (P : Program) (F : Nat) (args : List T) (H : List Fam) (K : T → List Fam → Prop) : Prop where
  ex : ∃ (σ : List Sg) (nl : List Fam) (args0 : List T) (h0 : List Fam) (Q : T → List Fam → Prop) (H2 : List Fam), Ctr P F args0 h0 Q ∧ apart σ = true ∧ nl.all nilB = true ∧
    givesF σ (H ++ nl).length (H ++ nl) σ h0 = some H2 ∧ leS H.length (H ++ nl) σ (H ++ nl).length σ h0 (belsK (H ++ nl).length (h0.map (Fam.rk σ (H ++ nl).length)) (argsK H.length args (args0.map (T.rk σ (H ++ nl).length)) True)) ∧
    ∀ v h', Q v h' → capsP h' → RetG σ H2 h' v K

theorem CallK.mk2 {F : Nat} {args : List T} {H : List Fam} {K : T → List Fam → Prop} {σ : List Sg} {nl : List Fam} {args0 : List T} {h0 : List Fam} {Q : T → List Fam → Prop} {H2 : List Fam} (hc : Ctr P F args0 h0 Q) (hap : apart σ = true) (hnl : nl.all nilB = true)
    (hH : givesF σ (H ++ nl).length (H ++ nl) σ h0 = some H2) (hle : leS H.length (H ++ nl) σ (H ++ nl).length σ h0 (belsK (H ++ nl).length (h0.map (Fam.rk σ (H ++ nl).length)) (argsK H.length args (args0.map (T.rk σ (H ++ nl).length)) True)))
    (hk : ∀ v h', Q v h' → capsP h' → RetG σ H2 h' v K) : CallK P F args H K := ⟨σ, nl, args0, h0, Q, H2, hc, hap, hnl, hH, hle, hk⟩

/-- Behind a call: reckon the heap and the result, then go on. -/
theorem ret_mk {σ : List Sg} {H h' : List Fam} {v : T} {K : T → List Fam → Prop} {H' : List Fam} {v' : T} (h : givesF σ H.length H σ h' = some H') (hv : v.rk σ H.length = v') (hk : K v' H') : RetG σ H h' v K := by
  unfold RetG
  rw [hv]
  exact givesF_of (K := fun H' => K v' H') h hk

theorem leS_of {N : Nat} {H : List Fam} {σ0 : List Sg} {N1 : Nat} : ∀ {σ : List Sg} {h : List Fam} {A : Prop}, leS N H σ0 N1 σ h A →
    σ.length = h.length ∧ (∀ f g : Nat, σ[f]? = some (.whole g) → g < H.length ∧ ∀ y, (get H g y).Le N ((get h f y).rk σ0 N1)) ∧
      (∀ f g y : Nat, σ[f]? = some (.mem g y) → g < H.length ∧ (get H g y).Le N ((get h f 0).rk σ0 N1) ∧ ∀ x, x ≠ 0 → get h f x = .no) ∧
      (∀ f g : Nat, σ[f]? = some (.name g) → g < H.length ∧ ∀ x, get h f x = .no) ∧ A
  | [], [], A, h => ⟨rfl, by simp, by simp, by simp, h⟩
  | [], _ :: _, A, h => h.elim
  | .whole g :: r, [], A, h => h.elim
  | .mem g y :: r, [], A, h => h.elim
  | .mem g y :: r, .many _ :: _, A, h => h.elim
  | .name g :: r, [], A, h => h.elim
  | .adopt _ _ _ :: r, l, A, h => by cases l <;> exact h.elim
  | .name g :: r, m :: h, A, hh => by
    obtain ⟨M, hM, h1⟩ := nth_of hh
    obtain ⟨h2, h3⟩ := noneK_of h1
    obtain ⟨i1, i2, i3, i5, i4⟩ := leS_of h3
    refine ⟨by simp [i1], fun f g' hf => ?_, fun f g' y' hf => ?_, fun f g' hf => ?_, i4⟩
    · cases f with
      | zero => simp at hf
      | succ f => simpa [get] using i2 f g' (by simpa using hf)
    · cases f with
      | zero => simp at hf
      | succ f => simpa [get] using i3 f g' y' (by simpa using hf)
    · cases f with
      | zero =>
        simp at hf
        subst hf
        exact ⟨(List.getElem?_eq_some_iff.1 hM).1, fun x => by simpa [get] using h2 x⟩
      | succ f => simpa [get] using i5 f g' (by simpa using hf)
  | .whole g :: r, m :: h, A, hh => by
    obtain ⟨M, hM, h1⟩ := nth_of hh
    obtain ⟨h2, h3⟩ := famLe_of h1
    obtain ⟨i1, i2, i3, i5, i4⟩ := leS_of h3
    refine ⟨by simp [i1], fun f g' hf => ?_, fun f g' y' hf => ?_, fun f g' hf => (by cases f with | zero => (simp at hf) | succ f => simpa [get] using i5 f g' (by simpa using hf)), i4⟩
    · cases f with
      | zero =>
        simp at hf
        subst hf
        refine ⟨(List.getElem?_eq_some_iff.1 hM).1, fun y => ?_⟩
        have := h2 y
        rw [rk_at] at this
        simpa only [get, hM, List.getElem?_cons_zero] using this
      | succ f => simpa [get] using i2 f g' (by simpa using hf)
    · cases f with
      | zero => simp at hf
      | succ f => simpa [get] using i3 f g' y' (by simpa using hf)
  | .mem g y :: r, .one q :: h, A, hh => by
    obtain ⟨M, hM, h1⟩ := nth_of hh
    have h1' : (M.at y).leK N (q.rk σ0 N1) (leS N H σ0 N1 r h A) := by
      unfold Fam.atK at h1
      cases M with
      | one q' => cases y with
        | zero => exact h1
        | succ y => exact h1.elim
      | many g => exact h1.of
    obtain ⟨h2, h3⟩ := leK_of h1'
    obtain ⟨i1, i2, i3, i5, i4⟩ := leS_of h3
    refine ⟨by simp [i1], fun f g' hf => ?_, fun f g' y' hf => ?_, fun f g' hf => (by cases f with | zero => (simp at hf) | succ f => simpa [get] using i5 f g' (by simpa using hf)), i4⟩
    · cases f with
      | zero => simp at hf
      | succ f => simpa [get] using i2 f g' (by simpa using hf)
    · cases f with
      | zero =>
        simp at hf
        obtain ⟨rfl, rfl⟩ := hf
        refine ⟨(List.getElem?_eq_some_iff.1 hM).1, ?_, fun x hx => ?_⟩
        · rw [show get (Fam.one q :: h) 0 0 = q from rfl]
          simpa only [get, hM] using h2
        · cases x with
          | zero => exact absurd rfl hx
          | succ x => rfl
      | succ f => simpa [get] using i3 f g' y' (by simpa using hf)

theorem argsK_of {N : Nat} : ∀ {l m : List T} {A : Prop}, argsK N l m A → (∀ β, NilAbove N β → l.map (T.ren β) = m.map (T.ren β)) ∧ A
  | [], [], A, h => ⟨fun _ _ => rfl, h⟩
  | [], _ :: _, A, h => h.elim
  | _ :: _, [], A, h => h.elim
  | u :: l, v :: m, A, h => by
    obtain ⟨h1, h2⟩ := eqT_of h
    obtain ⟨h3, h4⟩ := argsK_of h2
    exact ⟨fun β hβ => by simp [h1 β hβ, h3 β hβ], h4⟩

theorem nilB_at {m : Fam} (h : nilB m = true) (x : Nat) : NilCk (m.at x) := by
  unfold nilB at h
  cases m with
  | one q =>
    cases q with
    | no => cases x <;> exact .inl rfl
    | cells w l => cases h
    | map w k ck n f => cases h
    | iter m y ck seen => cases h
    | row w k e z n c f =>
      obtain ⟨h1, h2⟩ := Bool.and_eq_true_iff.1 h
      have h1 := Nat.eq_of_beq_eq_true h1
      have h2 := Nat.eq_of_beq_eq_true h2
      subst h1 h2
      cases x with
      | zero => exact .inr ⟨_, _, _, _, _, rfl⟩
      | succ x => exact .inl rfl
  | many g => cases h

theorem Rel.weaken (hr : Rel cx β s a w) {H2 : List Fam} {N : Nat} (hna : NilAbove N β) (hlen : s.h.length ≤ H2.length)
    (h : ∀ g y, get H2 g y = get s.h g y ∨ ((get s.h g y).Le N (get H2 g y) ∧ (get H2 g y).bel H2.length) ∨ NilCk (get H2 g y)) : Rel cx β ⟨s.t, H2⟩ a w := by
  have hk : ∀ g y, (get H2 g y).known = true → (get s.h g y).known = true := by
    intro g y hk
    rcases h g y with e | ⟨l, _⟩ | e
    · rw [← e]; exact hk
    · exact l.known hk
    · rw [e.unknown] at hk; cases hk
  have ho : ∀ g y, (get H2 g y).owned = true → (get s.h g y).owned = true := by
    intro g y hk
    rcases h g y with e | ⟨l, _⟩ | e
    · rw [← e]; exact hk
    · exact l.owned hk
    · rw [e.unowned] at hk; cases hk
  refine ⟨hr.dfr, hr.sz, ⟨hr.tm.tm⟩, ⟨fun g y => ?_, fun f x g y hne hof hkg => hr.ft.sep f x g y hne (ho f x hof) (hk g y hkg)⟩, ⟨fun i v hv => T.bel_mono (hr.wf.t i v hv) hlen, fun g y => ?_⟩, Nat.le_trans hr.ml hlen, hr.pin, hr.os, hr.tape, hr.out, hr.hs, hr.fr, fun f x hof => hr.ow f x (ho f x hof), fun f x hkf => hr.kn f x (hk f x hkf)⟩
  · rcases h g y with e | ⟨l, _⟩ | e
    · rw [e]; exact hr.ft.ck g y
    · exact l.holds _ _ _ hna (hr.ft.ck g y)
    · exact e.holds _ _ _
  · rcases h g y with e | ⟨_, b⟩ | e
    · rw [e]; exact Ck.bel_mono (hr.wf.h g y) hlen
    · exact b
    · rcases e with e | ⟨own, k, ee, z, f, e⟩
      · rw [e]; trivial
      · rw [e]; intro i hi; omega

theorem callK_of (hr0 : Rel cx β s a w) {F : Nat} {args : List T} {K : T → List Fam → Prop} (hc : CallK P F args s.h K) (hargb : ∀ v ∈ args, v.bel s.h.length) :
    Calls P F (args.map (T.ren β)).toArray w fun e w' => ∃ v h' β', e = .returned (v.ren β') ∧ K v h' ∧ v.bel h'.length ∧ Agree s.h.length β β' ∧ s.h.length ≤ h'.length ∧ Rel cx β' ⟨s.t, h'⟩ a w' := by
  obtain ⟨σ, nl, args0, h0, Q, H2, sp, hap, hnl, hH, hle, hK⟩ := hc.ex
  obtain ⟨hlen, hwh, hme, hnm, hb⟩ := leS_of hle
  have hr : Rel cx (nilUp β s.h.length) s a w := hr0.rename (nilUp_agree β _)
  have hna := nilUp_above β s.h.length
  have hag1 := nilUp_agree β s.h.length
  generalize nilUp β s.h.length = β1 at hr hna hag1
  have hfam : ∀ q ∈ σ, q.fam < (s.h ++ nl).length := by
    intro q hq
    obtain ⟨j, hj⟩ := List.getElem?_of_mem hq
    cases q with
    | whole g => exact (hwh j g hj).1
    | mem g y => exact (hme j g y hj).1
    | name g => exact (hnm j g hj).1
    | adopt a b c => exact absurd hj (apart_noadopt hap _ _ _ _)
  obtain ⟨H', hHe, g1, g2, g3, g4, g5, g6⟩ := gives_of hap hfam (givesF_of (K := fun H' => H' = H2) hH rfl)
  subst hHe
  have hl2 : H'.length = (s.h ++ nl).length := by omega
  have hget1 : ∀ g y, get (s.h ++ nl) g y = get s.h g y ∨ NilCk (get (s.h ++ nl) g y) := by
    intro g y
    unfold get
    by_cases hg : g < s.h.length
    · left; rw [List.getElem?_append_left hg]
    · right
      rw [List.getElem?_append_right (by omega)]
      cases hm : nl[g - s.h.length]? with
      | none => exact .inl rfl
      | some m => exact nilB_at (List.all_eq_true.1 hnl m (List.mem_of_getElem? hm)) y
  have hr1 : Rel cx β1 ⟨s.t, s.h ++ nl⟩ a w := hr.weaken hna (by simp) fun g y => by
    rcases hget1 g y with e | e
    · exact .inl e
    · exact .inr (.inr e)
  have hflat0 : ∀ f x own e z m cc g, get (h0.map (Fam.rk σ (s.h ++ nl).length)) f x = .row own false e z m cc g → ∀ i, i < m → ∀ v ∈ g i, v.flat = true := by
    intro f x own e z m cc g hg
    have hg' : (get h0 f x).rk σ (s.h ++ nl).length = .row own false e z m cc g := by
      rw [← hg]
      unfold get
      rw [List.getElem?_map]
      cases h0[f]? with
      | none => rfl
      | some m => exact (rk_at m x).symm
    have hf : f < h0.length := get_lt (by intro e2; rw [e2] at hg'; cases hg')
    rw [← hlen] at hf
    have hq := List.getElem?_eq_getElem hf
    have hh : ((get h0 f x).rk σ (s.h ++ nl).length).holds β1 w (0, 0, .nil) ∨ ∃ A, ((get h0 f x).rk σ (s.h ++ nl).length).holds β1 w A := by
      cases hc : σ[f] with
      | whole g0 =>
        rw [hc] at hq
        exact .inr ⟨_, ((hwh f g0 hq).2 x).holds _ _ _ hna (hr1.ft.ck g0 x)⟩
      | mem g0 y0 =>
        rw [hc] at hq
        obtain ⟨_, h2, h3⟩ := hme f g0 y0 hq
        have hx : x = 0 := by
          by_cases hx : x = 0
          · exact hx
          · exfalso
            rw [h3 x hx] at hg'
            cases hg'
        subst hx
        exact .inr ⟨_, h2.holds _ _ _ hna (hr1.ft.ck g0 y0)⟩
      | name g0 =>
        rw [hc] at hq
        rw [(hnm f g0 hq).2 x] at hg'
        cases hg'
      | adopt a b c => rw [hc] at hq; exact absurd hq (apart_noadopt hap _ _ _ _)
    rcases hh with hh | ⟨A, hh⟩
    · rw [hg'] at hh; exact hh.2.2.1 rfl
    · rw [hg'] at hh; exact hh.2.2.1 rfl
  obtain ⟨hbel, hargs⟩ := belsK_of hb hflat0
  obtain ⟨heq, _⟩ := argsK_of hargs
  have hget0 : ∀ f x, get (h0.map (Fam.rk σ (s.h ++ nl).length)) f x = (get h0 f x).rk σ (s.h ++ nl).length := by
    intro f x
    unfold get
    rw [List.getElem?_map]
    cases h0[f]? with
    | none => rfl
    | some m => exact rk_at m x
  have hr2 : Rel cx β1 ⟨s.t, H'⟩ a w := hr1.weaken hna (by simp only; omega) fun g y => by
    by_cases hg : g < (s.h ++ nl).length
    · by_cases ht : Tgt σ g y
      · right; left
        obtain ⟨f, hf | hf⟩ := ht
        · rw [g3 f g hf y]
          exact ⟨(hwh f g hf).2 y, by rw [hl2, ← hget0]; exact hbel f y⟩
        · rw [g4 f g y hf]
          exact ⟨(hme f g y hf).2.1, by rw [hl2, ← hget0]; exact hbel f 0⟩
      · exact .inl (g5 g y hg ht)
    · left
      have : ∀ (l : List Fam), l.length ≤ g → get l g y = .no := by
        intro l hl
        unfold get
        rw [List.getElem?_eq_none hl]
      rw [this H' (by omega), this _ (by simp only; omega)]
  have hmain := callK_core (s := ⟨s.t, H'⟩) hr2 (K := K) sp hap hlen
    (fun f g hf => ⟨by have := (hwh f g hf).1; simp only; omega, fun y => by simp only; rw [hl2]; exact g3 f g hf y⟩)
    (fun f g y hf => ⟨by have := (hme f g y hf).1; simp only; omega, by simp only; rw [hl2]; exact g4 f g y hf, (hme f g y hf).2.2⟩)
    (fun f g hf => ⟨by have := (hnm f g hf).1; simp only; omega, (hnm f g hf).2⟩)
    (fun v h' hQ hcp => hK v h' hQ hcp)
  have eargs : (args.map (T.ren β)) = ((args0.map (T.rk σ H'.length)).map (T.ren β1)) := by
    rw [hl2, ← heq β1 hna]
    exact List.map_congr_left fun v hv => T.ren_agree (hargb v hv) hag1
  rw [eargs]
  refine hmain.mono fun e w' hh => ?_
  obtain ⟨v, h', β', q1, q2, q3, q4, q5, q6⟩ := hh
  simp only at q4 q5
  have hle2 : s.h.length ≤ H'.length := by rw [hl2]; simp
  exact ⟨v, h', β', q1, q2, q3, fun f x hf => (hag1 f x hf).trans (q4 f x (by omega)), by omega, q6⟩
end Go.X

set_option linter.constructorNameAsVariable false
set_option linter.unusedVariables false
namespace Go.X

/-! ### Operations under guards -/
def xop (P : Program) (tb : Tb) (N : Nat) (s : S) (o : Oper) (K : S → Prop) : Prop :=
  match s with
  | ⟨t0, h0⟩ => match o.op with
    | .store t x v => match o.dst with
      | none => evC ⟨t0, h0⟩ x fun ad => ev ⟨t0, h0⟩ v fun v => storeK tb h0 t ad v fun h' => K ⟨t0, h'⟩
      | some _ => False
    | .mapUpdate t m k v => match o.dst with
      | none => evC ⟨t0, h0⟩ m fun m => evC ⟨t0, h0⟩ k fun k => ev ⟨t0, h0⟩ v fun v => mapSetK tb h0 t m k v fun h' => K ⟨t0, h'⟩
      | some _ => False
    | .insert t m k v => match o.dst with
      | none => evC ⟨t0, h0⟩ m fun m => evC ⟨t0, h0⟩ k fun k => ev ⟨t0, h0⟩ v fun v => mapSetK tb h0 t m k v fun h' => K ⟨t0, h'⟩
      | some _ => False
    | .call { callee := .value f, args, .. } => evC ⟨t0, h0⟩ f fun fv => match fv with
      | .fn F cs => evs ⟨t0, h0⟩ args.toList fun vs => CallK P F (vs ++ cs.map fun q => T.c (.p q.1 q.2.1 q.2.2)) h0 fun v h' => putK N t0 h' o.dst v K
      | _ => False
    | op => xval tb ⟨t0, h0⟩ op fun v h' => putK N t0 h' o.dst v K

/-- An operation that is not wanted leaves its slot without a value. -/
def skipK (N : Nat) (s : S) (dst : Option Nat) (K : S → Prop) : Prop :=
  match s with
  | ⟨t0, h0⟩ => putK N t0 h0 dst (.t []) K

/-- A guard decided: W where the operation is wanted, X where it is not. -/
def guardK (ops : List Oper) (s : S) (g : Option (Nat × Bool)) (W X : S → Prop) : Prop :=
  match g with
  | none => W s
  | some (j, wd) => nth ops j fun oj => match oj.dst with
    | none => False
    | some d => match s with
      | ⟨t0, h0⟩ => lk t0 d fun v => match v with
        | .c .tt => match wd with
          | true => W ⟨t0, h0⟩
          | false => X ⟨t0, h0⟩
        | .c .ff => match wd with
          | false => W ⟨t0, h0⟩
          | true => X ⟨t0, h0⟩
        | .c (.b b) => (b = true → match wd with
            | true => W ⟨(d, .c .tt) :: t0, h0⟩
            | false => X ⟨(d, .c .tt) :: t0, h0⟩) ∧
          (b = false → match wd with
            | false => W ⟨(d, .c .ff) :: t0, h0⟩
            | true => X ⟨(d, .c .ff) :: t0, h0⟩)
        | .t _ => X ⟨t0, h0⟩
        | _ => False

def gop (P : Program) (tb : Tb) (N : Nat) (ops : List Oper) (s : S) (o : Oper) (K : S → Prop) : Prop :=
  guardK ops s o.guard (fun s => xop P tb N s o K) (fun s => skipK N s o.dst K)

/-- A region in the text's order. -/
def xops (P : Program) (tb : Tb) (N : Nat) (ops : List Oper) (l : List Oper) : S → (S → Prop) → Prop :=
  List.rec (motive := fun _ => S → (S → Prop) → Prop) (fun s K => K s) (fun o _ ih s K => gop P tb N ops s o fun s' => ih s' K) l

/-! ### A region whose order is drawn -/
def preds (o : Oper) : Nat := o.after.toList.foldl (fun m e => match Region.binds .any e with | true => Nat.lor m (Nat.pow 2 e.on) | false => m) 0

def bit (L i : Nat) : Bool := !Nat.beq (Nat.land (Nat.shiftRight L i) 1) 0

def rdy (L i : Nat) (o : Oper) : Bool := !bit L i && Nat.beq (Nat.land (preds o) L) (preds o)

def pureB (o : Oper) : Bool :=
  match o.op with
  | .move _ | .assign _ | .pick _ _ _ | .load _ _ | .nilCheck _ | .binOp _ _ _ _ _ | .unOp _ _ _ | .convert _ _ _ | .makeFunc _ _ _ | .slice _ _ _ _ _ | .fieldAddr _ _ _ | .field _ _ _ | .indexAddr _ _ _ | .index _ _ _ | .extract _ _ => true
  | .call { callee := .builtin b, .. } => match b with
    | .len | .max | .min => true
    | _ => false
  | _ => false

def firstPure (L : Nat) : List Oper → Nat → Option (Nat × Oper)
  | [], _ => none
  | o :: r, i => match pureB o && rdy L i o with
    | true => some (i, o)
    | false => firstPure L r (i + 1)

def readyI (L : Nat) : List Oper → Nat → List (Nat × Oper)
  | [], _ => []
  | o :: r, i => match rdy L i o with
    | true => (i, o) :: readyI L r (i + 1)
    | false => readyI L r (i + 1)

/-- What a pure operation reads is to be held from now on. -/
def heldK (s : S) (op : Op) (i : Nat) (pend : List (Nat × Nat × Nat)) (K : List (Nat × Nat × Nat) → Prop) : Prop :=
  match op with
  | .load _ x => evC s x fun v => match v with
    | .p f y _ => K ((i, f, y) :: pend)
    | .pe f y _ _ _ => K ((i, f, y) :: pend)
    | _ => False
  | .call { callee := .builtin .len, args, .. } => match args.toList with
    | [x] => evC s x fun v => match v with
      | .mp f y => K ((i, f, y) :: pend)
      | _ => K pend
    | _ => K pend
  | .convert _ _ x => evC s x fun v => match v with
    | .sl f y _ _ _ _ => K ((i, f, y) :: pend)
    | _ => K pend
  | _ => K pend

/-- What a pure operation waits for is held for its own sake from now on. -/
def liftP (o : Oper) (i : Nat) : List (Nat × Nat × Nat) → List (Nat × Nat × Nat)
  | [] => []
  | (k, f, x) :: l => match bit (preds o) k with
    | true => (i, f, x) :: liftP o i l
    | false => (k, f, x) :: liftP o i l

/-- Behind an operation: what is still held is as it was. -/
def keepK (s s' : S) (o : Oper) (l : List (Nat × Nat × Nat)) : (List (Nat × Nat × Nat) → Prop) → Prop :=
  List.rec (motive := fun _ => (List (Nat × Nat × Nat) → Prop) → Prop) (fun K => K [])
    (fun q _ ih K => match q with
      | (i, f, x) => match bit (preds o) i with
        | true => ih K
        | false => getK s.h f x fun q => getK s'.h f x fun q' => q = q' ∧ ih fun r' => K ((i, f, x) :: r')) l

theorem keepK_cons {s s' : S} {o : Oper} {i f x : Nat} {r : List (Nat × Nat × Nat)} {K : List (Nat × Nat × Nat) → Prop} : keepK s s' o ((i, f, x) :: r) K = (match bit (preds o) i with
    | true => keepK s s' o r K
    | false => getK s.h f x fun q => getK s'.h f x fun q' => q = q' ∧ keepK s s' o r fun r' => K ((i, f, x) :: r')) := rfl

def branch (step : Nat → Oper → Prop) (l : List (Nat × Oper)) : Prop :=
  List.rec (motive := fun _ => Prop) True (fun q r ih => match q with
    | (i, o) => match r with
      | [] => step i o
      | _ :: _ => Both (step i o) ih) l

def xdraw (P : Program) (tb : Tb) (N : Nat) (ops : List Oper) (n : Nat) : Nat → List (Nat × Nat × Nat) → S → (S → Prop) → Prop :=
  Nat.rec (motive := fun _ => Nat → List (Nat × Nat × Nat) → S → (S → Prop) → Prop)
    (fun L _ s K => match readyI L ops 0 with
      | [] => K s
      | _ :: _ => False)
    (fun _ ih L pend s K => match firstPure L ops 0 with
      | some (i, o) => litK i fun i => litK (Nat.lor L (Nat.pow 2 i)) fun L' => guardK ops s o.guard
          (fun s => match s with
            | ⟨t0, h0⟩ => heldK ⟨t0, h0⟩ o.op i (liftP o i pend) fun pend' => xpure tb ⟨t0, h0⟩ o.op fun v => putK N t0 h0 o.dst v fun s' => ih L' pend' s' K)
          (fun s => skipK N s o.dst fun s' => ih L' (liftP o i pend) s' K)
      | none => match readyI L ops 0 with
        | [] => K s
        | q :: l => branch (fun i o => litK i fun i => litK (Nat.lor L (Nat.pow 2 i)) fun L' => gop P tb N ops s o fun s' => keepK s s' o pend fun pend' => ih L' pend' s' K) (q :: l)) n

theorem xdraw_zero {P : Program} {tb : Tb} {N : Nat} {ops : List Oper} {L : Nat} {pend : List (Nat × Nat × Nat)} {s : S} {K : S → Prop} : xdraw P tb N ops 0 L pend s K = (match readyI L ops 0 with
  | [] => K s
  | _ :: _ => False) := rfl
theorem xdraw_succ {P : Program} {tb : Tb} {N : Nat} {ops : List Oper} {n L : Nat} {pend : List (Nat × Nat × Nat)} {s : S} {K : S → Prop} : xdraw P tb N ops (n + 1) L pend s K = (match firstPure L ops 0 with
  | some (i, o) => guardK ops s o.guard
      (fun s => match s with
        | ⟨t0, h0⟩ => heldK ⟨t0, h0⟩ o.op i (liftP o i pend) fun pend' => xpure tb ⟨t0, h0⟩ o.op fun v => putK N t0 h0 o.dst v fun s' => xdraw P tb N ops n (Nat.lor L (Nat.pow 2 i)) pend' s' K)
      (fun s => skipK N s o.dst fun s' => xdraw P tb N ops n (Nat.lor L (Nat.pow 2 i)) (liftP o i pend) s' K)
  | none => match readyI L ops 0 with
    | [] => K s
    | q :: l => branch (fun i o => gop P tb N ops s o fun s' => keepK s s' o pend fun pend' => xdraw P tb N ops n (Nat.lor L (Nat.pow 2 i)) pend' s' K) (q :: l)) := by
  unfold xdraw
  simp only [litK_eq]

/-- What is asked of a region whose order is drawn, once and for all. -/
def sepAll (arr : Array Oper) : Bool :=
  (List.range arr.size).all fun i => (List.range arr.size).all fun j =>
    Nat.beq i j || (match arr[i]?, arr[j]? with
      | some oi, some oj => bit (preds oj) i || bit (preds oi) j || oi.apart arr oj
      | _, _ => true)

def okDraw (arr : Array Oper) : Bool := Region.noSelect arr && sepAll arr

/-! ### The law of the early operation -/
section
variable {P : Program} {ops : Array Oper} {Q : Exit → Act → World → Prop} {md : Region.Mode}

def waits (md : Region.Mode) (ops : Array Oper) (j i : Nat) : Bool := ((ops[j]?).map fun o => o.after.any fun e => Region.binds md e && e.on == i).getD false

def wpR (P : Program) (md : Region.Mode) (ops : Array Oper) (Q : Exit → Act → World → Prop) : Nat → Array Bool → List (Nat × (World → Prop)) → Act → World → Prop
  | 0, L, _, a, w => Region.ready md ops L = [] ∧ Q .normal a w
  | n + 1, L, R, a, w => (Region.ready md ops L = [] → Q .normal a w) ∧
    ∀ j ∈ Region.ready md ops L, wpOp P ops Q j (fun a' w' => (∀ r ∈ R, waits md ops j r.1 = false → r.2 w') ∧ wpR P md ops Q n (L.setIfInBounds j true) (R.filter fun r => !waits md ops j r.1) a' w') a w

theorem wpR_sound : ∀ (n : Nat) (L : Array Bool) (R : List (Nat × (World → Prop))) (a : Act) (w : World), wpR P md ops Q n L R a w → wpAny P md ops Q n L a w
  | 0, _, _, _, _, h => h
  | n + 1, _, _, _, _, h => ⟨h.1, fun j hj => wpOp_mono (fun a' w' h' => wpR_sound n _ _ a' w' h'.2) (h.2 j hj)⟩

theorem wpR_mono : ∀ (n : Nat) (L : Array Bool) (R R' : List (Nat × (World → Prop))) (a : Act) (w : World), (∀ r ∈ R', r ∈ R) → wpR P md ops Q n L R a w → wpR P md ops Q n L R' a w
  | 0, _, _, _, _, _, _, h => h
  | n + 1, L, R, R', a, w, hs, h => ⟨h.1, fun j hj => wpOp_mono (fun a' w' h' => ⟨fun r hr hw => h'.1 r (hs r hr) hw, wpR_mono n _ _ _ a' w' (fun r hr => by
      obtain ⟨h1, h2⟩ := List.mem_filter.1 hr
      exact List.mem_filter.2 ⟨hs r h1, h2⟩) h'.2⟩) (h.2 j hj)⟩

theorem wpR_free : ∀ (n : Nat) (L : Array Bool) (R : List (Nat × (World → Prop))) (i : Nat) (a : Act) (w : World), wpR P md ops Q n L R a w → wpR P md ops Q n L ((i, fun _ => True) :: R) a w
  | 0, _, _, _, _, _, h => h
  | n + 1, L, R, i, a, w, h => ⟨h.1, fun j hj => wpOp_mono (fun a' w' h' => ⟨fun r hr hw => by
      rcases List.mem_cons.1 hr with rfl | hr
      · trivial
      · exact h'.1 r hr hw, by
      by_cases hw : waits md ops j i = true
      · refine wpR_mono n _ _ _ a' w' (fun r hr => ?_) h'.2
        obtain ⟨h1, h2⟩ := List.mem_filter.1 hr
        rcases List.mem_cons.1 h1 with rfl | h1
        · simp [hw] at h2
        · exact List.mem_filter.2 ⟨h1, h2⟩
      · have := wpR_free n _ _ i a' w' h'.2
        refine wpR_mono n _ _ _ a' w' (fun r hr => ?_) this
        obtain ⟨h1, h2⟩ := List.mem_filter.1 hr
        rcases List.mem_cons.1 h1 with rfl | h1
        · exact List.mem_cons_self ..
        · exact List.mem_cons_of_mem _ (List.mem_filter.2 ⟨h1, h2⟩)⟩) (h.2 j hj)⟩

theorem waits_false {i j : Nat} {oj : Oper} (hoj : ops[j]? = some oj) (h : ∀ e ∈ oj.after, Region.binds md e = true → e.on ≠ i) : waits md ops j i = false := by
  unfold waits
  rw [hoj]
  simp only [Option.map_some, Option.getD_some]
  rw [Array.any_eq_false']
  intro e he hc
  obtain ⟨h1, h2⟩ := Bool.and_eq_true_iff.1 hc
  exact h e he h1 (by simpa using h2)

theorem wpR_first {i : Nat} {oi : Oper} {v : Value} {S : World → Prop} (hi : ops[i]? = some oi) (hsel : ∀ (j : Nat) (o : Oper) cs b, ops[j]? = some o → o.op ≠ .select cs b)
    (hQ : ∀ c a w, Q (.panic c) (a.put oi.dst v) w → Q (.panic c) a w) :
    ∀ (n : Nat) (L : Array Bool) (R R' : List (Nat × (World → Prop))) (a : Act) (w : World),
      (∀ j oj, ops[j]? = some oj → j ≠ i → L.getD j true = false → (∀ e ∈ oj.after, Region.binds md e = true → e.on ≠ i) → oi.apart ops oj = true) →
      i ∈ Region.ready md ops L → YieldsIf P ops S oi v a → S w → (∀ r ∈ R, r.2 w) → (i, S) ∈ R' → (∀ r ∈ R, r ∈ R' ∨ (waits md ops i r.1 = true ∧ (i, r.2) ∈ R')) →
      wpR P md ops Q n (L.setIfInBounds i true) R' (a.put oi.dst v) w → wpR P md ops Q (n + 1) L R a w := by
  intro n
  induction n with
  | zero =>
    intro L R R' a w _ hr hy hS hR hiS hRR H
    refine ⟨fun h => (by rw [h] at hr; cases hr), fun j hj => ?_⟩
    by_cases hji : j = i
    · subst hji; exact hy.wpOp hi hS ⟨fun r hr _ => hR r hr, H⟩
    · have := ready_mono hj hji
      rw [H.1] at this
      cases this
  | succ n ih =>
    intro L R R' a w hfree hr hy hS hR hiS hRR H
    refine ⟨fun h => (by rw [h] at hr; cases hr), fun j hj => ?_⟩
    by_cases hji : j = i
    · subst hji
      refine hy.wpOp hi hS ⟨fun r hr _ => hR r hr, wpR_mono _ _ _ _ _ _ (fun r hr => ?_) H⟩
      obtain ⟨h1, h2⟩ := List.mem_filter.1 hr
      rcases hRR r h1 with h | ⟨h, _⟩
      · exact h
      · simp [h] at h2
    · have h1 := H.2 j (ready_mono hj hji)
      obtain ⟨hjun, oj, hoj, hall⟩ := mem_ready.1 hj
      have hnot : ∀ e ∈ oj.after, Region.binds md e = true → e.on ≠ i := fun e he hb heq => by
        have h1 := hall e he hb
        have h0 := (mem_ready.1 hr).1
        rw [heq] at h1
        rcases Nat.lt_or_ge i L.size with h' | h'
        · simp [h'] at h0 h1; rw [h0] at h1; cases h1
        · simp [Array.getElem?_eq_none h'] at h1
      have hwt := waits_false (md := md) hoj hnot
      have h2 := wpOp_putIf hoj (hfree j oj hoj hji hjun hnot) (fun cs b => hsel i oi cs b hi) (fun cs b => hsel j oj cs b hoj) hQ hy h1
      have hfree' : ∀ k ok, ops[k]? = some ok → k ≠ i → (L.setIfInBounds j true).getD k true = false →
          (∀ e ∈ ok.after, Region.binds md e = true → e.on ≠ i) → oi.apart ops ok = true := fun k ok hk hki hun hno => by
        refine hfree k ok hk hki ?_ hno
        by_cases hjk : j = k
        · subst hjk; exact hjun
        · rw [getD_set_ne true hjk] at hun; exact hun
      refine wpOp_mono (fun a' w' h3 => ?_) h2
      obtain ⟨hy', hkeep, hrest⟩ := h3
      have hkeepR : ∀ r ∈ R, waits md ops j r.1 = false → r.2 w' := fun r hr hw => by
        rcases hRR r hr with h | ⟨_, h⟩
        · exact hkeep r h hw
        · exact hkeep (i, r.2) h hwt
      refine ⟨hkeepR, ih (L.setIfInBounds j true) _ (R'.filter fun r => !waits md ops j r.1) a' w' hfree' (ready_mono hr (Ne.symm hji)) hy' (hkeep (i, S) hiS hwt) (fun r hr => ?_) (List.mem_filter.2 ⟨hiS, by simp [hwt]⟩) (fun r hr => ?_) ?_⟩
      · obtain ⟨h5, h6⟩ := List.mem_filter.1 hr
        exact hkeepR r h5 (by simpa using h6)
      · obtain ⟨h5, h6⟩ := List.mem_filter.1 hr
        rcases hRR r h5 with h | ⟨h, h'⟩
        · exact .inl (List.mem_filter.2 ⟨h, h6⟩)
        · exact .inr ⟨h, List.mem_filter.2 ⟨h', by simp [hwt]⟩⟩
      · rw [Array.setIfInBounds_comm _ _ hji]
        exact hrest
end
end Go.X

set_option linter.constructorNameAsVariable false
set_option linter.unusedVariables false
namespace Go.X
variable {cx : Cx} {β : Nm} {s : S} {a : Act} {w : World} {P : Program} {tb : Tb}

def Nx (cx : Cx) (β : Nm) (n : Nat) (K : S → Prop) (a : Act) (w : World) : Prop := ∃ β' s', K s' ∧ Rel cx β' s' a w ∧ Agree n β β' ∧ n ≤ s'.h.length

theorem Nx.of {n : Nat} {K : S → Prop} (hk : K s) (hr : Rel cx β s a w) (hn : n ≤ s.h.length) : Nx cx β n K a w := ⟨β, s, hk, hr, fun _ _ _ => rfl, hn⟩

theorem put_heap {N : Nat} {t : List (Nat × T)} {h : List Fam} {dst : Option Nat} {v : T} {K : S → Prop} (hp : putK N t h dst v K) : putK N t h dst v fun s' => K s' ∧ s'.h = h := by
  cases dst with
  | none => exact ⟨hp, rfl⟩
  | some d =>
    obtain ⟨hb, hk⟩ := putK_some hp
    exact putK_mk hb ⟨hk, rfl⟩

theorem val_wp {o : Oper} {K : S → Prop} {Q : Exit → Act → World → Prop} (h : Val P cx β s a w (fun v h' => putK cx.N s.t h' o.dst v K) (execOp a.eval o)) : o.wp P a w (Nx cx β s.h.length K) Q := by
  obtain ⟨v, β', h', w', hrun, hp, hb, hr, hag, hl⟩ := h
  unfold Oper.wp
  rw [hrun]
  obtain ⟨s', ⟨hk, hs⟩, hr'⟩ := hr.put (dst := o.dst) (v := v) hb (put_heap hp)
  refine ⟨β', s', hk, hr', hag, ?_⟩
  rw [hs]
  exact hl

theorem store_wp {o : Oper} {K : S → Prop} {Q : Exit → Act → World → Prop} {t : Nat} {x v : Operand} (hv : Valid tb P) (hr : Rel cx β s a w) (ho : o.op = .store t x v) (hd : o.dst = none) (h : evC s x fun ad => ev s v fun v => storeK tb s.h t ad v fun h' => K ⟨s.t, h'⟩) :
    o.wp P a w (Nx cx β s.h.length K) Q := by
  obtain ⟨ad, hx, h1⟩ := evC_of hr.tm h
  obtain ⟨u, hu, hub, h2⟩ := ev_of hr.tm (ev_wf (K' := fun v => v.bel s.h.length ∧ _) hr.wf (fun v hv h => ⟨hv, h⟩) h1)
  obtain ⟨h', w', hrun, hk, hr', hl⟩ := storeK_of hv hr hub h2
  unfold Oper.wp
  have e : (execOp a.eval o).run P w = .ok .skip w' := by
    obtain ⟨dst, op, ty, pos, after, guard⟩ := o
    simp only at ho
    subst ho
    simp only [execOp, hx, hu, Sem.run_bind, hrun, Result.andThen_ok, Sem.run_pure]
  rw [e]
  show Nx cx β s.h.length K (a.put o.dst undef) w'
  rw [hd]
  exact ⟨β, _, hk, hr', fun _ _ _ => rfl, by simp only; omega⟩

theorem mapSet_wp {o : Oper} {K : S → Prop} {Q : Exit → Act → World → Prop} {t : Nat} {x y v : Operand} (hv : Valid tb P) (hr : Rel cx β s a w) (ho : o.op = .mapUpdate t x y v ∨ o.op = .insert t x y v) (hd : o.dst = none)
    (h : evC s x fun m => evC s y fun k => ev s v fun v => mapSetK tb s.h t m k v fun h' => K ⟨s.t, h'⟩) : o.wp P a w (Nx cx β s.h.length K) Q := by
  obtain ⟨m, hx, h1⟩ := evC_of hr.tm h
  obtain ⟨k, hy, h2⟩ := evC_of hr.tm h1
  obtain ⟨u, hu, hub, h3⟩ := ev_of hr.tm (ev_wf (K' := fun v => v.bel s.h.length ∧ _) hr.wf (fun v hv h => ⟨hv, h⟩) h2)
  obtain ⟨h', w', hrun, hk, hr', hl⟩ := mapSet_of hv hr hub h3
  unfold Oper.wp
  have e : (execOp a.eval o).run P w = .ok .skip w' := by
    obtain ⟨dst, op, ty, pos, after, guard⟩ := o
    simp only at ho
    rcases ho with rfl | rfl <;> simp only [execOp, hx, hy, hu, Sem.run_bind, hrun, Result.andThen_ok, Sem.run_pure]
  rw [e]
  show Nx cx β s.h.length K (a.put o.dst undef) w'
  rw [hd]
  exact ⟨β, _, hk, hr', fun _ _ _ => rfl, by simp only; omega⟩

theorem capsT_ren (cs : List (Nat × Nat × Nat)) : (cs.map fun q => T.c (.p q.1 q.2.1 q.2.2)).map (T.ren β) = cs.map fun q => Value.pointer (some (place β q.1 q.2.1 q.2.2)) := by
  rw [List.map_map]
  exact List.map_congr_left fun _ _ => rfl

theorem call_wp {o : Oper} {K : S → Prop} {Q : Exit → Act → World → Prop} {f : Operand} {args : Array Operand} {ats : Array Nat} (hr : Rel cx β s a w) (ho : o.op = .call { callee := .value f, args, argTypes := ats })
    (h : evC s f fun fv => match fv with
      | .fn F cs => evs s args.toList fun vs => CallK P F (vs ++ cs.map fun q => T.c (.p q.1 q.2.1 q.2.2)) s.h fun v h' => putK cx.N s.t h' o.dst v K
      | _ => False) : o.wp P a w (Nx cx β s.h.length K) Q := by
  obtain ⟨fv, hf, hfb, h1⟩ := evC_of hr.tm (evC_wf (K' := fun v => v.bel s.h.length ∧ _) hr.wf (fun v hv h => ⟨hv, h⟩) h)
  cases fv with
  | fn F cs =>
    obtain ⟨vs, hvs, hvb, h2⟩ := evs_of hr.tm (evs_wf (K' := fun vs => (∀ v ∈ vs, v.bel s.h.length) ∧ _) hr.wf (fun vs hv h => ⟨hv, h⟩) h1)
    obtain ⟨σ, nl, args0, h0, Q0, H2, sp, _⟩ := h2.ex
    have hcall := callK_of hr h2 (by
      intro v hv
      rcases List.mem_append.1 hv with hv | hv
      · exact hvb v hv
      · obtain ⟨q, hq, rfl⟩ := List.mem_map.1 hv
        exact hfb q hq)
    unfold Oper.wp
    have e1 : args.map a.eval = (vs.map (T.ren β)).toArray := by
      apply Array.toList_inj.1
      rw [Array.toList_map, hvs]
    have e2 : ((vs ++ cs.map fun q => T.c (.p q.1 q.2.1 q.2.2)).map (T.ren β)).toArray = (vs.map (T.ren β)).toArray ++ (cs.map fun q => Value.pointer (some (place β q.1 q.2.1 q.2.2))).toArray := by
      rw [List.map_append, capsT_ren]
      simp
    have e : (execOp a.eval o).run P w = .ok (.enter F ((vs ++ cs.map fun q => T.c (.p q.1 q.2.1 q.2.2)).map (T.ren β)).toArray) w := by
      obtain ⟨dst, op, ty, pos, after, guard⟩ := o
      simp only at ho
      subst ho
      simp only [execOp, resolve, hf, C.ren, Deferred.ofValue, Sem.run_bind, Sem.run_pure, Result.andThen_ok, invoke, e1]
      rw [e2]
      have := sp.cf ((vs.map (T.ren β)).toArray ++ (cs.map fun q => Value.pointer (some (place β q.1 q.2.1 q.2.2))).toArray) w
      simpa using this
    rw [e]
    refine hcall.mono fun e w' hh => ?_
    obtain ⟨v, h', β', rfl, hp, hb, hag, hl, hr'⟩ := hh
    obtain ⟨s', ⟨hk, hs⟩, hr''⟩ := hr'.put (dst := o.dst) (v := v) hb (put_heap hp)
    refine ⟨β', s', hk, hr'', hag, ?_⟩
    rw [hs]
    exact hl
  | _ => exact h1.elim

theorem xop_wp {o : Oper} {K : S → Prop} {Q : Exit → Act → World → Prop} (hv : Valid tb P) (hr : Rel cx β s a w) (h : xop P tb cx.N s o K) : o.wp P a w (Nx cx β s.h.length K) Q := by
  obtain ⟨t0, h0⟩ := s
  have key : ∀ op, o.op = op → xop P tb cx.N ⟨t0, h0⟩ o K → o.wp P a w (Nx cx β h0.length K) Q := by
    intro op ho h
    unfold xop at h
    rw [ho] at h
    cases op with
    | store t x v =>
      simp only at h
      cases hd : o.dst with
      | none => rw [hd] at h; exact store_wp hv hr ho hd h
      | some d => rw [hd] at h; exact h.elim
    | mapUpdate t x y v =>
      simp only at h
      cases hd : o.dst with
      | none => rw [hd] at h; exact mapSet_wp hv hr (.inl ho) hd h
      | some d => rw [hd] at h; exact h.elim
    | insert t x y v =>
      simp only at h
      cases hd : o.dst with
      | none => rw [hd] at h; exact mapSet_wp hv hr (.inr ho) hd h
      | some d => rw [hd] at h; exact h.elim
    | call c =>
      obtain ⟨callee, args, ats⟩ := c
      cases callee with
      | value f => exact call_wp hr ho h
      | builtin b => exact val_wp (xval_of hv hr (by rw [ho]; exact h))
      | invoke r m => exact val_wp (xval_of hv hr (by rw [ho]; exact h))
    | _ => exact val_wp (xval_of hv hr (by rw [ho]; exact h))
  exact key o.op rfl h

theorem skip_wp {dst : Option Nat} {K : S → Prop} (hr : Rel cx β s a w) (h : skipK cx.N s dst K) : ∃ s', K s' ∧ s'.h = s.h ∧ Rel cx β s' (a.put dst undef) w := by
  obtain ⟨t0, h0⟩ := s
  obtain ⟨s', ⟨hk, hs⟩, hr'⟩ := hr.put (dst := dst) (v := .t []) (fun _ h => by cases h) (put_heap h)
  exact ⟨s', hk, hs, hr'⟩

/-- A temporary restated. -/
theorem Rel.same (hr : Rel cx β s a w) {d : Nat} {u v : T} (hd : find s.t d = some u) (he : u.ren β = v.ren β) (hb : v.bel s.h.length) : Rel cx β ⟨(d, v) :: s.t, s.h⟩ a w := by
  refine ⟨hr.dfr, hr.sz, ⟨fun i x hx => ?_⟩, hr.ft, ⟨fun i x hx => ?_, hr.wf.h⟩, hr.ml, hr.pin, hr.os, hr.tape, hr.out, hr.hs, hr.fr, hr.ow, hr.kn⟩
  · simp only [find] at hx
    split at hx
    · rename_i hdi
      subst hdi
      cases hx
      rw [hr.tm.tm d u hd, he]
    · exact hr.tm.tm i x hx
  · simp only [find] at hx
    split at hx
    · cases hx; exact hb
    · exact hr.wf.t i x hx

/-- A guard, decided. -/
theorem guardK_of {ops : List Oper} {arr : Array Oper} (harr : arr.toList = ops) {o : Oper} {W X : S → Prop} (hr : Rel cx β s a w) (h : guardK ops s o.guard W X) :
    ∃ s', s'.h = s.h ∧ Rel cx β s' a w ∧ ((Region.wanted o (yielded arr a.tmps) = true ∧ W s') ∨ (Region.wanted o (yielded arr a.tmps) = false ∧ X s')) := by
  obtain ⟨t0, h0⟩ := s
  unfold guardK at h
  split at h
  · rename_i hg
    exact ⟨⟨t0, h0⟩, rfl, hr, .inl ⟨by simp [Region.wanted, hg], h⟩⟩
  · rename_i j wd hg
    obtain ⟨oj, hj, h1⟩ := nth_of h
    split at h1
    · exact h1.elim
    · rename_i d hd
      obtain ⟨v, hv, h2⟩ := lk_of h1
      have hjj : arr[j]? = some oj := by rw [← Array.getElem?_toList, harr]; exact hj
      have hyd : ∀ b, v.ren β = .bool b → Region.wanted o (yielded arr a.tmps) = (b == wd) := by
        intro b hb
        have := hr.tm.tm d v hv
        rw [hb] at this
        simp only [Region.wanted, hg, yielded, hjj, Option.bind_some, hd, this]
        cases b <;> cases wd <;> rfl
      split at h2
      · have hw := hyd true rfl
        split at h2
        · exact ⟨⟨t0, h0⟩, rfl, hr, .inl ⟨hw, h2⟩⟩
        · exact ⟨⟨t0, h0⟩, rfl, hr, .inr ⟨hw, h2⟩⟩
      · have hw := hyd false rfl
        split at h2
        · exact ⟨⟨t0, h0⟩, rfl, hr, .inl ⟨hw, h2⟩⟩
        · exact ⟨⟨t0, h0⟩, rfl, hr, .inr ⟨hw, h2⟩⟩
      · rename_i b
        have hw := hyd b rfl
        cases hb : b with
        | true =>
          have h3 := h2.1 hb
          have hr' : Rel cx β ⟨(d, .c .tt) :: t0, h0⟩ a w := hr.same hv (by simp [T.ren, C.ren, hb]) trivial
          split at h3
          · exact ⟨⟨(d, .c .tt) :: t0, h0⟩, rfl, hr', .inl ⟨by rw [hw, hb]; rfl, h3⟩⟩
          · exact ⟨⟨(d, .c .tt) :: t0, h0⟩, rfl, hr', .inr ⟨by rw [hw, hb]; rfl, h3⟩⟩
        | false =>
          have h3 := h2.2 hb
          have hr' : Rel cx β ⟨(d, .c .ff) :: t0, h0⟩ a w := hr.same hv (by simp [T.ren, C.ren, hb]) trivial
          split at h3
          · exact ⟨⟨(d, .c .ff) :: t0, h0⟩, rfl, hr', .inl ⟨by rw [hw, hb]; rfl, h3⟩⟩
          · exact ⟨⟨(d, .c .ff) :: t0, h0⟩, rfl, hr', .inr ⟨by rw [hw, hb]; rfl, h3⟩⟩
      · rename_i l
        have := hr.tm.tm d _ hv
        exact ⟨⟨t0, h0⟩, rfl, hr, .inr ⟨by simp only [Region.wanted, hg, yielded, hjj, Option.bind_some, hd, this]; rfl, h2⟩⟩
      · exact h2.elim

theorem gop_wp {ops : List Oper} {arr : Array Oper} (harr : arr.toList = ops) {o : Oper} {K : S → Prop} {Q : Exit → Act → World → Prop} (hv : Valid tb P) (hr : Rel cx β s a w) (h : gop P tb cx.N ops s o K) :
    if Region.wanted o (yielded arr a.tmps) = true then o.wp P a w (Nx cx β s.h.length K) Q else Nx cx β s.h.length K (a.put o.dst undef) w := by
  obtain ⟨s', hs, hr', h1 | h1⟩ := guardK_of harr hr h
  · rw [if_pos h1.1, ← hs]
    exact xop_wp hv hr' h1.2
  · rw [if_neg (by rw [h1.1]; simp)]
    obtain ⟨s'', hk, hh, hr''⟩ := skip_wp hr' h1.2
    exact ⟨β, s'', hk, hr'', fun _ _ _ => rfl, by rw [hh, hs]; exact Nat.le_refl _⟩

/-- A region in the text's order. -/
theorem xops_wp {ops : List Oper} {arr : Array Oper} (harr : arr.toList = ops) (hv : Valid tb P) {Q : Exit → Act → World → Prop} {K : S → Prop} {n : Nat} (hQ : ∀ a w, Nx cx β n K a w → Q .normal a w) :
    ∀ (l : List Oper) (β' : Nm) (s : S) (a : Act) (w : World), Agree n β β' → n ≤ s.h.length → Rel cx β' s a w → xops P tb cx.N ops l s K → wpList P arr Q l a w
  | [], β', s, a, w, hag, hn, hr, h => hQ a w ⟨β', s, h, hr, hag, hn⟩
  | o :: r, β', s, a, w, hag, hn, hr, h => by
    have h1 := gop_wp (Q := Q) harr hv hr h
    have next : ∀ a w, Nx cx β' s.h.length (fun s' => xops P tb cx.N ops r s' K) a w → wpList P arr Q r a w := by
      rintro a w ⟨β'', s', hk, hr', hag', hl'⟩
      exact xops_wp harr hv hQ r β'' s' a w (fun f x hf => (hag f x hf).trans (hag' f x (by omega))) (by omega) hr' hk
    unfold wpList
    split at h1
    · rename_i hw
      rw [if_pos hw]
      exact .inl (Oper.wp_mono next h1)
    · rename_i hw
      rw [if_neg hw]
      exact next _ _ h1
end Go.X

set_option linter.constructorNameAsVariable false
set_option linter.unusedVariables false
namespace Go.X
variable {cx : Cx} {β : Nm} {s : S} {a : Act} {w : World} {P : Program} {tb : Tb}

theorem bit_eq (L i : Nat) : bit L i = L.testBit i := by
  unfold bit Nat.testBit
  have e : Nat.land (Nat.shiftRight L i) 1 = 1 &&& (L >>> i) := Nat.and_comm (L >>> i) 1
  rw [e]
  cases h : Nat.beq (1 &&& (L >>> i)) 0 with
  | true => rw [Nat.eq_of_beq_eq_true h]; rfl
  | false => exact (bne_iff_ne.2 (Nat.ne_of_beq_eq_false h)).symm

theorem preds_bit (o : Oper) (k : Nat) : (preds o).testBit k = true ↔ ∃ e ∈ o.after, Region.binds .any e = true ∧ e.on = k := by
  unfold preds
  have key : ∀ (l : List Edge) (m : Nat), (l.foldl (fun m e => match Region.binds .any e with | true => Nat.lor m (Nat.pow 2 e.on) | false => m) m).testBit k = true ↔ (m.testBit k = true ∨ ∃ e ∈ l, Region.binds .any e = true ∧ e.on = k) := by
    intro l
    induction l with
    | nil => intro m; simp
    | cons e l ih =>
      intro m
      rw [List.foldl_cons, ih]
      cases hb : Region.binds .any e with
      | true =>
        simp only
        have : (Nat.lor m (Nat.pow 2 e.on)).testBit k = (m.testBit k || decide (e.on = k)) := by
          show (m ||| 2 ^ e.on).testBit k = _
          rw [Nat.testBit_or, Nat.testBit_two_pow]
        rw [this]
        simp only [Bool.or_eq_true, decide_eq_true_eq, List.mem_cons, exists_eq_or_imp, hb, true_and]
        exact or_assoc
      | false =>
        simp only
        constructor
        · rintro (h | ⟨e', he', h'⟩)
          · exact .inl h
          · exact .inr ⟨e', by simp [he'], h'⟩
        · rintro (h | ⟨e', he', h'⟩)
          · exact .inl h
          · rcases List.mem_cons.1 he' with rfl | he'
            · rw [hb] at h'; exact absurd h'.1 (by simp)
            · exact .inr ⟨e', he', h'⟩
  refine (key _ 0).trans ?_
  simp

theorem land_sub (p L : Nat) : Nat.beq (Nat.land p L) p = true ↔ ∀ k, p.testBit k = true → L.testBit k = true := by
  constructor
  · intro h k hk
    have e : p &&& L = p := Nat.eq_of_beq_eq_true h
    rw [← e, Nat.testBit_and] at hk
    exact (Bool.and_eq_true_iff.1 hk).2
  · intro h
    have e : p &&& L = p := by
      apply Nat.eq_of_testBit_eq
      intro k
      rw [Nat.testBit_and]
      cases hp : p.testBit k with
      | false => rfl
      | true => rw [h k hp]; rfl
    show Nat.beq (p &&& L) p = true
    rw [e]
    exact Nat.beq_refl p

structure Lst (arr : Array Oper) (L : Nat) (l : Array Bool) : Prop where
  size : l.size = arr.size
  get : ∀ i, i < arr.size → l[i]? = some (L.testBit i)
  lt : ∀ k, L.testBit k = true → k < arr.size

theorem Lst.set {arr : Array Oper} {L : Nat} {l : Array Bool} (h : Lst arr L l) {i : Nat} (hi : i < arr.size) : Lst arr (Nat.lor L (Nat.pow 2 i)) (l.setIfInBounds i true) := by
  have e : ∀ k, (Nat.lor L (Nat.pow 2 i)).testBit k = (L.testBit k || decide (i = k)) := by
    intro k
    show (L ||| 2 ^ i).testBit k = _
    rw [Nat.testBit_or, Nat.testBit_two_pow]
  refine ⟨by simp [h.size], fun k hk => ?_, fun k hk => ?_⟩
  · rw [e, Array.getElem?_setIfInBounds]
    by_cases hik : i = k
    · subst hik; simp [h.size, hi]
    · simp [hik, h.get k hk]
  · rw [e] at hk
    rcases (Bool.or_eq_true _ _).mp hk with hk | hk
    · exact h.lt k hk
    · simp at hk; omega

theorem rdy_iff {arr : Array Oper} {L : Nat} {l : Array Bool} (h : Lst arr L l) {i : Nat} {o : Oper} (ho : arr[i]? = some o) : rdy L i o = true ↔ i ∈ Region.ready .any arr l := by
  have hi : i < arr.size := (Array.getElem?_eq_some_iff.1 ho).1
  have hg : l.getD i true = L.testBit i := by
    have := h.get i hi
    rw [Array.getD_eq_getD_getElem?, this]; rfl
  have hgf : ∀ k, l.getD k false = L.testBit k := by
    intro k
    rw [Array.getD_eq_getD_getElem?]
    by_cases hk : k < arr.size
    · rw [h.get k hk]; rfl
    · rw [Array.getElem?_eq_none (by rw [h.size]; omega)]
      cases hb : L.testBit k with
      | false => rfl
      | true => exact absurd (h.lt k hb) hk
  rw [mem_ready]
  unfold rdy
  rw [Bool.and_eq_true, land_sub, bit_eq]
  constructor
  · rintro ⟨h1, h2⟩
    refine ⟨by rw [hg]; simpa using h1, o, ho, fun e he hb => ?_⟩
    rw [hgf]
    exact h2 _ ((preds_bit o _).2 ⟨e, he, hb, rfl⟩)
  · rintro ⟨h1, o', ho', h2⟩
    rw [ho] at ho'
    cases ho'
    refine ⟨by rw [hg] at h1; simp [h1], fun k hk => ?_⟩
    obtain ⟨e, he, hb, rfl⟩ := (preds_bit o k).1 hk
    have := h2 e he hb
    rwa [hgf] at this

theorem firstPure_of {L : Nat} : ∀ {l : List Oper} {i0 i : Nat} {o : Oper}, firstPure L l i0 = some (i, o) → ∃ j, i = i0 + j ∧ l[j]? = some o ∧ pureB o = true ∧ rdy L i o = true
  | [], _, _, _, h => by cases h
  | q :: r, i0, i, o, h => by
    unfold firstPure at h
    split at h
    · rename_i hb
      cases h
      obtain ⟨h1, h2⟩ := Bool.and_eq_true_iff.1 hb
      exact ⟨0, rfl, rfl, h1, h2⟩
    · obtain ⟨j, h1, h2⟩ := firstPure_of h
      exact ⟨j + 1, by omega, by simpa using h2⟩

theorem readyI_of {L : Nat} : ∀ {l : List Oper} {i0 : Nat} {i : Nat} {o : Oper}, (i, o) ∈ readyI L l i0 ↔ ∃ j, i = i0 + j ∧ l[j]? = some o ∧ rdy L i o = true
  | [], i0, i, o => by simp [readyI]
  | q :: r, i0, i, o => by
    have ih : (i, o) ∈ readyI L r (i0 + 1) ↔ ∃ j, i = i0 + 1 + j ∧ r[j]? = some o ∧ rdy L i o = true := readyI_of
    have tail : (∃ j, i = i0 + 1 + j ∧ r[j]? = some o ∧ rdy L i o = true) ↔ ∃ j, j ≠ 0 ∧ i = i0 + j ∧ (q :: r)[j]? = some o ∧ rdy L i o = true := by
      constructor
      · rintro ⟨j, h1, h2, h3⟩; exact ⟨j + 1, by omega, by omega, by simpa using h2, h3⟩
      · rintro ⟨j, h0, h1, h2, h3⟩
        obtain ⟨k, rfl⟩ := Nat.exists_eq_succ_of_ne_zero h0
        exact ⟨k, by omega, by simpa using h2, h3⟩
    unfold readyI
    split
    · rename_i hb
      rw [List.mem_cons, ih, tail]
      constructor
      · rintro (h | ⟨j, _, h⟩)
        · cases h; exact ⟨0, rfl, rfl, hb⟩
        · exact ⟨j, h⟩
      · rintro ⟨j, h1, h2, h3⟩
        cases j with
        | zero => left; simp at h2; subst h2; simp at h1; rw [h1]
        | succ j => right; exact ⟨j + 1, by omega, h1, h2, h3⟩
    · rename_i hb
      rw [ih, tail]
      constructor
      · rintro ⟨j, _, h⟩; exact ⟨j, h⟩
      · rintro ⟨j, h1, h2, h3⟩
        cases j with
        | zero => simp at h2; subst h2; simp at h1; subst h1; rw [h3] at hb; cases hb
        | succ j => exact ⟨j + 1, by omega, h1, h2, h3⟩

theorem ready_readyI {arr : Array Oper} {L : Nat} {l : Array Bool} (h : Lst arr L l) {i : Nat} : i ∈ Region.ready .any arr l ↔ ∃ o, arr[i]? = some o ∧ (i, o) ∈ readyI L arr.toList 0 := by
  constructor
  · intro hr
    obtain ⟨_, o, ho, _⟩ := mem_ready.1 hr
    exact ⟨o, ho, readyI_of.2 ⟨i, by omega, by rw [Array.getElem?_toList]; exact ho, (rdy_iff h ho).2 hr⟩⟩
  · rintro ⟨o, ho, hm⟩
    obtain ⟨j, hj, _, h3⟩ := readyI_of.1 hm
    exact (rdy_iff h ho).1 h3

/-- What is held: the laws' list beside the machine's. -/
def PendOk (β : Nm) (s : S) : List (Nat × Nat × Nat) → List (Nat × (World → Prop)) → Prop
  | [], [] => True
  | (i, f, x) :: p, (j, S) :: R => i = j ∧ (∀ w, (get s.h f x).holds β w (β f x) → S w) ∧ PendOk β s p R
  | _, _ => False

theorem PendOk.heap {β : Nm} {s s' : S} (hs : s'.h = s.h) : ∀ {p : List (Nat × Nat × Nat)} {R : List (Nat × (World → Prop))}, PendOk β s p R → PendOk β s' p R
  | [], [], _ => trivial
  | [], _ :: _, h => h.elim
  | (_, _, _) :: _, [], h => h.elim
  | (i, f, x) :: p, (j, S) :: R, h => ⟨h.1, by rw [hs]; exact h.2.1, PendOk.heap hs h.2.2⟩

theorem PendOk.now (hf : Fits β s.h w) : ∀ {p : List (Nat × Nat × Nat)} {R : List (Nat × (World → Prop))}, PendOk β s p R → ∀ r ∈ R, r.2 w
  | [], [], _, r, hr => by cases hr
  | [], _ :: _, h, _, _ => h.elim
  | (_, _, _) :: _, [], h, _, _ => h.elim
  | (i, f, x) :: p, (j, S) :: R, h, r, hr => by
    rcases List.mem_cons.1 hr with rfl | hr
    · exact h.2.1 w (hf.ck f x)
    · exact PendOk.now hf h.2.2 r hr

theorem keep_of {arr : Array Oper} {j : Nat} {o : Oper} (ho : arr[j]? = some o) {β' : Nm} {s' : S} (hw : Wf s) (hag : Agree s.h.length β β') : ∀ {p : List (Nat × Nat × Nat)} {R : List (Nat × (World → Prop))} {K : List (Nat × Nat × Nat) → Prop}, PendOk β s p R → keepK s s' o p K →
    ∃ p', K p' ∧ PendOk β' s' p' (R.filter fun r => !waits .any arr j r.1)
  | [], [], K, _, h => ⟨[], h, trivial⟩
  | [], _ :: _, K, hp, _ => hp.elim
  | (_, _, _) :: _, [], K, hp, _ => hp.elim
  | (i, f, x) :: p, (i', S) :: R, K, hp, h => by
    obtain ⟨rfl, hS, hp'⟩ := hp
    have hwt : waits .any arr j i = bit (preds o) i := by
      rw [bit_eq]
      unfold waits
      rw [ho]
      simp only [Option.map_some, Option.getD_some]
      rw [Bool.eq_iff_iff, preds_bit, Array.any_eq_true']
      constructor
      · rintro ⟨e, he, h⟩
        obtain ⟨h1, h2⟩ := Bool.and_eq_true_iff.1 h
        exact ⟨e, he, h1, by simpa using h2⟩
      · rintro ⟨e, he, h1, h2⟩
        exact ⟨e, he, by simp [h1, h2]⟩
    rw [keepK_cons] at h
    split at h
    · rename_i hb
      obtain ⟨p', hk, hp''⟩ := keep_of ho hw hag hp' h
      refine ⟨p', hk, ?_⟩
      rw [List.filter_cons, if_neg (by simp [hwt, hb])]
      exact hp''
    · rename_i hb
      have h1 := getK_of h
      have h2 := getK_of h1
      obtain ⟨hq, h3⟩ := h2
      obtain ⟨p', hk, hp''⟩ := keep_of ho hw hag hp' h3
      refine ⟨_, hk, ?_⟩
      rw [List.filter_cons, if_pos (by simp [hwt, hb])]
      refine ⟨rfl, fun w hh => hS w ?_, hp''⟩
      rw [← hq] at hh
      by_cases hf : f < s.h.length
      · rw [hag f x hf]
        exact Ck.holds_agree (n := s.h.length) (hw.h f x) (fun g y hg => (hag g y hg).symm) hh
      · have : get s.h f x = .no := by
          cases hc : get s.h f x <;> first | rfl | exact absurd (get_lt (by rw [hc]; simp)) hf
        rw [this]; trivial

theorem liftP_cons {o : Oper} {i k f x : Nat} {l : List (Nat × Nat × Nat)} : liftP o i ((k, f, x) :: l) = (match bit (preds o) k with | true => (i, f, x) :: liftP o i l | false => (k, f, x) :: liftP o i l) := rfl

/-- What is held, held for a later operation's sake. -/
theorem PendOk.lift {arr : Array Oper} {j : Nat} {o : Oper} (ho : arr[j]? = some o) {s : S} : ∀ {p : List (Nat × Nat × Nat)} {R : List (Nat × (World → Prop))}, PendOk β s p R →
    ∃ R', PendOk β s (liftP o j p) R' ∧ ∀ r ∈ R, r ∈ R' ∨ (waits .any arr j r.1 = true ∧ (j, r.2) ∈ R')
  | [], [], _ => ⟨[], trivial, fun r hr => by cases hr⟩
  | [], _ :: _, h => h.elim
  | (_, _, _) :: _, [], h => h.elim
  | (i, f, x) :: p, (i', S) :: R, h => by
    obtain ⟨rfl, h2, h3⟩ := h
    obtain ⟨R', h4, h5⟩ := PendOk.lift ho h3
    have hwt : waits .any arr j i = bit (preds o) i := by
      rw [bit_eq]
      unfold waits
      rw [ho]
      simp only [Option.map_some, Option.getD_some]
      cases hb : (preds o).testBit i with
      | true =>
        obtain ⟨e, he, h1, h2⟩ := (preds_bit o i).1 hb
        exact Array.any_eq_true'.2 ⟨e, he, by simp [h1, h2]⟩
      | false =>
        rw [Array.any_eq_false']
        intro e he hc
        obtain ⟨h1, h2⟩ := Bool.and_eq_true_iff.1 hc
        have := (preds_bit o i).2 ⟨e, he, h1, by simpa using h2⟩
        rw [hb] at this
        cases this
    rw [liftP_cons]
    cases hb : bit (preds o) i with
    | true =>
      refine ⟨(j, S) :: R', ⟨rfl, h2, h4⟩, fun r hr => ?_⟩
      rcases List.mem_cons.1 hr with rfl | hr
      · exact .inr ⟨hwt.trans hb, List.mem_cons_self ..⟩
      · rcases h5 r hr with h | ⟨h, h'⟩
        · exact .inl (List.mem_cons_of_mem _ h)
        · exact .inr ⟨h, List.mem_cons_of_mem _ h'⟩
    | false =>
      refine ⟨(i, S) :: R', ⟨rfl, h2, h4⟩, fun r hr => ?_⟩
      rcases List.mem_cons.1 hr with rfl | hr
      · exact .inl (List.mem_cons_self ..)
      · rcases h5 r hr with h | ⟨h, h'⟩
        · exact .inl (List.mem_cons_of_mem _ h)
        · exact .inr ⟨h, List.mem_cons_of_mem _ h'⟩

theorem held_of (hr : Rel cx β s a w) {op : Op} {i : Nat} {pend : List (Nat × Nat × Nat)} {K : List (Nat × Nat × Nat) → Prop} (h : heldK s op i pend K) :
    (∃ f x, reads s op = some (f, x) ∧ K ((i, f, x) :: pend)) ∨ (reads s op = none ∧ K pend) := by
  cases op with
  | load t x =>
    have h : evC s x fun v => match v with | .p f y _ => K ((i, f, y) :: pend) | .pe f y _ _ _ => K ((i, f, y) :: pend) | _ => False := h
    cases x with
    | tmp d =>
      obtain ⟨v, hv, h1⟩ := lk_of (K := fun v => match v with | .c r => (match r with | .p f y _ => K ((i, f, y) :: pend) | .pe f y _ _ _ => K ((i, f, y) :: pend) | _ => False) | _ => False) h
      cases v with
      | c r =>
        cases r with
        | p f y o => exact .inl ⟨f, y, by simp [reads, hv, C.keyOf], h1⟩
        | pe f y z e j => exact .inl ⟨f, y, by simp [reads, hv, C.keyOf], h1⟩
        | _ => exact h1.elim
      | _ => exact h1.elim
    | const v =>
      right
      unfold evC ev at h
      simp only at h
      split at h
      · rename_i r hr'
        unfold ofVal at hr'
        split at hr' <;> first | (cases hr'; exact h.elim) | cases hr'
      · exact h.elim
    | func f => exact h.elim
    | global g => exact h.elim
  | call c =>
    obtain ⟨callee, args, ats⟩ := c
    cases callee with
    | builtin b =>
      cases b with
      | len =>
        have h : (match args.toList with
          | [x] => evC s x fun v => match v with
            | .mp f y => K ((i, f, y) :: pend)
            | _ => K pend
          | _ => K pend) := h
        have hrd : reads s (.call { callee := .builtin .len, args := args, argTypes := ats }) = readsB s .len args.toList := rfl
        rw [hrd]
        split at h
        · rename_i x hx
          rw [hx]
          cases x with
          | tmp d =>
            obtain ⟨v, hv, h1⟩ := lk_of (K := fun v => match v with | .c r => (match r with | .mp f y => K ((i, f, y) :: pend) | _ => K pend) | _ => False) h
            cases v with
            | c r =>
              cases r with
              | mp f y => exact .inl ⟨f, y, by simp [readsB, hv], h1⟩
              | _ => exact .inr ⟨by simp [readsB, hv], h1⟩
            | _ => exact h1.elim
          | const v =>
            right
            refine ⟨rfl, ?_⟩
            unfold evC ev at h
            simp only at h
            split at h
            · rename_i r hr'
              unfold ofVal at hr'
              split at hr' <;> first | (cases hr'; exact h) | cases hr'
            · exact h.elim
          | func f => exact .inr ⟨rfl, h⟩
          | global g => exact h.elim
        · rename_i hne
          right
          refine ⟨?_, h⟩
          unfold readsB
          simp only
      | _ => exact .inr ⟨rfl, h⟩
    | _ => exact .inr ⟨rfl, h⟩
  | convert ts td x =>
    have h : evC s x fun v => match v with
      | .sl f y _ _ _ _ => K ((i, f, y) :: pend)
      | _ => K pend := h
    cases x with
    | tmp d =>
      obtain ⟨v, hv, h1⟩ := lk_of (K := fun v => match v with | .c r => (match r with | .sl f y _ _ _ _ => K ((i, f, y) :: pend) | _ => K pend) | _ => False) h
      cases v with
      | c r =>
        cases r with
        | sl f y z o n c => exact .inl ⟨f, y, by simp [reads, hv], h1⟩
        | _ => exact .inr ⟨by simp [reads, hv], h1⟩
      | _ => exact h1.elim
    | const v =>
      right
      refine ⟨rfl, ?_⟩
      unfold evC ev at h
      simp only at h
      split at h
      · rename_i r hr'
        unfold ofVal at hr'
        split at hr' <;> first | (cases hr'; exact h) | cases hr'
      · exact h.elim
    | func f => exact .inr ⟨rfl, h⟩
    | global g => exact h.elim
  | _ => exact .inr ⟨rfl, h⟩

theorem sep_of {arr : Array Oper} (h : sepAll arr = true) {i j : Nat} {oi oj : Oper} (hi : arr[i]? = some oi) (hj : arr[j]? = some oj) (hne : j ≠ i) (h1 : (preds oj).testBit i = false) (h2 : (preds oi).testBit j = false) : oi.apart arr oj = true := by
  have hil : i < arr.size := (Array.getElem?_eq_some_iff.1 hi).1
  have hjl : j < arr.size := (Array.getElem?_eq_some_iff.1 hj).1
  have := List.all_eq_true.1 (List.all_eq_true.1 h i (List.mem_range.2 hil)) j (List.mem_range.2 hjl)
  rw [hi, hj] at this
  simp only [bit_eq, h1, h2, Bool.false_or] at this
  rcases (Bool.or_eq_true _ _).mp this with h3 | h3
  · exact absurd (Nat.eq_of_beq_eq_true h3).symm hne
  · exact h3

theorem branch_of {step : Nat → Oper → Prop} : ∀ {l : List (Nat × Oper)}, branch step l → ∀ q ∈ l, step q.1 q.2
  | [], _, q, hq => by cases hq
  | [(i, o)], h, q, hq => by
    rcases List.mem_cons.1 hq with rfl | hq
    · exact h
    · cases hq
  | (i, o) :: q' :: r, h, q, hq => by
    rcases List.mem_cons.1 hq with rfl | hq
    · exact h.1
    · exact branch_of (l := q' :: r) h.2 q hq

theorem xdraw_wp {ops : List Oper} {arr : Array Oper} (harr : arr.toList = ops) (hv : Valid tb P) (hok : okDraw arr = true) {Q : Exit → Act → World → Prop} {K : S → Prop} {n0 : Nat} (hP : ∀ c a w, ¬ Q (.panic c) a w) (hQ : ∀ a w, Nx cx β n0 K a w → Q .normal a w) :
    ∀ (n L : Nat) (pend : List (Nat × Nat × Nat)) (s : S) (β' : Nm) (l : Array Bool) (R : List (Nat × (World → Prop))) (a : Act) (w : World), Lst arr L l → PendOk β' s pend R → Agree n0 β β' → n0 ≤ s.h.length → Rel cx β' s a w →
      xdraw P tb cx.N ops n L pend s K → wpR P .any arr Q n l R a w := by
  obtain ⟨hsel, hsep⟩ := Bool.and_eq_true_iff.1 hok
  intro n
  induction n with
  | zero =>
    intro L pend s β' l R a w hL hp hag hn hr h
    rw [xdraw_zero] at h
    split at h
    · rename_i hnil
      refine ⟨?_, hQ a w ⟨β', s, h, hr, hag, hn⟩⟩
      rw [List.eq_nil_iff_forall_not_mem]
      intro i hi
      obtain ⟨o, _, hm⟩ := (ready_readyI hL).1 hi
      rw [harr, hnil] at hm
      cases hm
    · exact h.elim
  | succ n ih =>
    intro L pend s β' l R a w hL hp hag hn hr h
    rw [xdraw_succ] at h
    split at h
    · rename_i i o hfp
      obtain ⟨j, hj, hlo, hpure, hrdy⟩ := firstPure_of hfp
      rw [Nat.zero_add] at hj
      subst hj
      have hao : arr[i]? = some o := by rw [← Array.getElem?_toList, harr]; exact hlo
      have hil : i < arr.size := (Array.getElem?_eq_some_iff.1 hao).1
      have hready := (rdy_iff hL hao).1 hrdy
      have hfree : ∀ j oj, arr[j]? = some oj → j ≠ i → l.getD j true = false → (∀ e ∈ oj.after, Region.binds .any e = true → e.on ≠ i) → o.apart arr oj = true := by
        intro j oj hoj hji hun hno
        refine sep_of hsep hao hoj hji ?_ ?_
        · cases hb : (preds oj).testBit i with
          | false => rfl
          | true =>
            obtain ⟨e, he, h1, h2⟩ := (preds_bit oj i).1 hb
            exact absurd h2 (hno e he h1)
        · cases hb : (preds o).testBit j with
          | false => rfl
          | true =>
            obtain ⟨h1, h2⟩ := Bool.and_eq_true_iff.1 hrdy
            have := (land_sub _ _).1 h2 j hb
            have hjl : j < arr.size := (Array.getElem?_eq_some_iff.1 hoj).1
            rw [Array.getD_eq_getD_getElem?, hL.get j hjl, this] at hun
            cases hun
      have hnow := PendOk.now hr.ft hp
      obtain ⟨s1, hs1, hr1, h1 | h1⟩ := guardK_of harr hr h
      · obtain ⟨t1, g1⟩ := s1
        obtain ⟨hwant, h2⟩ := h1
        have es1 : ∃ s1 : S, s1 = ⟨t1, g1⟩ := ⟨_, rfl⟩
        obtain ⟨s1, es1⟩ := es1
        rw [← es1] at hs1 hr1
        have h2 : heldK s1 o.op i (liftP o i pend) fun pend' => xpure tb s1 o.op fun v => putK cx.N s1.t s1.h o.dst v fun s' => xdraw P tb cx.N ops n (Nat.lor L (Nat.pow 2 i)) pend' s' K := by rw [es1]; exact h2
        obtain ⟨R1, hp1, hRR⟩ := (hp.heap hs1).lift hao
        have take : ∀ (S : World → Prop) (pend' : List (Nat × Nat × Nat)) (R' : List (Nat × (World → Prop))), PendOk β' s1 pend' R' → (R' = R1 ∨ R' = (i, S) :: R1) → S w → (∀ w, S w → ∀ f x, reads s1 o.op = some (f, x) → (get s1.h f x).holds β' w (β' f x)) → (R' = R1 → S = fun _ => True) →
            (xpure tb s1 o.op fun v => putK cx.N s1.t s1.h o.dst v fun s' => xdraw P tb cx.N ops n (Nat.lor L (Nat.pow 2 i)) pend' s' K) → wpR P .any arr Q (n + 1) l R a w := by
          intro S pend' R' hp' hR' hS hSr htriv h3
          obtain ⟨v, hrun, hvb, hput⟩ := xpure_of hv hr1.tm hr1.ft (xpure_wf (K' := fun v => v.bel s1.h.length ∧ _) hr1.wf (fun v hv h => ⟨hv, h⟩) h3)
          obtain ⟨s', ⟨hk, hs'⟩, hr'⟩ := hr1.put (dst := o.dst) (v := v) hvb (put_heap hput)
          have hrest := ih _ pend' s' β' _ R' _ w (hL.set hil) (hp'.heap hs') hag (by rw [hs', hs1]; exact hn) hr' hk
          refine wpR_first (S := S) (v := v.ren β') hao (Region.noSelect_spec hsel) (fun c a w hc => (hP _ _ _ hc).elim) n l R ((i, S) :: R1) a w hfree hready (.inl ⟨hwant, fun w' hw' => hrun w' (hSr w' hw')⟩) hS hnow (List.mem_cons_self ..) (fun r hr => (hRR r hr).imp (List.mem_cons_of_mem _) fun h => ⟨h.1, List.mem_cons_of_mem _ h.2⟩) ?_
          rcases hR' with rfl | rfl
          · rw [htriv rfl]; exact wpR_free _ _ _ i _ _ hrest
          · exact hrest
        rcases held_of hr1 h2 with ⟨f, x, hrd, h3⟩ | ⟨hrd, h3⟩
        · refine take (fun w' => (get s1.h f x).holds β' w' (β' f x)) ((i, f, x) :: liftP o i pend) ((i, fun w' => (get s1.h f x).holds β' w' (β' f x)) :: R1) ⟨rfl, fun w h => h, hp1⟩ (.inr rfl) (hr1.ft.ck f x) (fun w hw f' x' hrd' => ?_) (fun e => ?_) h3
          · rw [hrd] at hrd'; cases hrd'; exact hw
          · have := congrArg List.length e; simp at this
        · exact take (fun _ => True) (liftP o i pend) R1 hp1 (.inl rfl) trivial (fun w _ f x hrd' => by rw [hrd] at hrd'; cases hrd') (fun _ => rfl) h3
      · obtain ⟨hwant, h2⟩ := h1
        obtain ⟨R1, hp1, hRR⟩ := (hp.heap hs1).lift hao
        obtain ⟨s', hk, hs', hr'⟩ := skip_wp hr1 h2
        have hrest := ih _ _ s' β' _ R1 _ w (hL.set hil) (hp1.heap hs') hag (by rw [hs', hs1]; exact hn) hr' hk
        exact wpR_first (S := fun _ => True) (v := undef) hao (Region.noSelect_spec hsel) (fun c a w hc => (hP _ _ _ hc).elim) n l R ((i, fun _ => True) :: R1) a w hfree hready (.inr ⟨hwant, rfl⟩) trivial hnow (List.mem_cons_self ..) (fun r hr => (hRR r hr).imp (List.mem_cons_of_mem _) fun h => ⟨h.1, List.mem_cons_of_mem _ h.2⟩) (wpR_free _ _ _ i _ _ hrest)
    · split at h
      · rename_i hnil
        have hnone : Region.ready .any arr l = [] := by
          rw [List.eq_nil_iff_forall_not_mem]
          intro i hi
          obtain ⟨o, _, hm⟩ := (ready_readyI hL).1 hi
          rw [harr, hnil] at hm
          cases hm
        exact ⟨fun _ => hQ a w ⟨β', s, h, hr, hag, hn⟩, fun j hj => by rw [hnone] at hj; cases hj⟩
      · rename_i q ql hq
        refine ⟨fun hnone => ?_, fun j hj => ?_⟩
        · exfalso
          have hm : q ∈ readyI L ops 0 := by rw [hq]; exact List.mem_cons_self ..
          obtain ⟨i, o⟩ := q
          obtain ⟨k, hk, hlo, hrd⟩ := readyI_of.1 hm
          have hik : i = k := by omega
          subst hik
          have hao : arr[i]? = some o := by rw [← Array.getElem?_toList, harr]; exact hlo
          have := (rdy_iff hL hao).1 hrd
          rw [hnone] at this
          cases this
        · obtain ⟨o, hao, hm⟩ := (ready_readyI hL).1 hj
          rw [harr, hq] at hm
          have hst := branch_of h (j, o) hm
          have hil : j < arr.size := (Array.getElem?_eq_some_iff.1 hao).1
          have h1 := gop_wp (Q := Q) harr hv hr hst
          have next : ∀ a w, Nx cx β' s.h.length (fun s' => keepK s s' o pend fun pend' => xdraw P tb cx.N ops n (Nat.lor L (Nat.pow 2 j)) pend' s' K) a w →
              (∀ r ∈ R, waits .any arr j r.1 = false → r.2 w) ∧ wpR P .any arr Q n (l.setIfInBounds j true) (R.filter fun r => !waits .any arr j r.1) a w := by
            rintro a w ⟨β'', s', hk, hr', hag', hl'⟩
            obtain ⟨p', hk', hp'⟩ := keep_of hao hr.wf hag' hp hk
            refine ⟨fun r hr0 hw => PendOk.now hr'.ft hp' r (List.mem_filter.2 ⟨hr0, by simp [hw]⟩), ?_⟩
            exact ih _ p' s' β'' _ _ a w (hL.set hil) hp' (fun f x hf => (hag f x hf).trans (hag' f x (by omega))) (by omega) hr' hk'
          unfold wpOp
          simp only [hao]
          split at h1
          · rename_i hw
            rw [if_pos hw]
            exact .inl (Oper.wp_mono next h1)
          · rename_i hw
            rw [if_neg hw]
            exact next _ _ h1
end Go.X

set_option linter.constructorNameAsVariable false
set_option linter.unusedVariables false
namespace Go.X
variable {cx : Cx} {β : Nm} {s : S} {a : Act} {w : World} {P : Program} {tb : Tb}

/-- A loop by an invariant: a family of states, with a measure. -/
structure LoopK (m : Nat) (body : S → (S → Prop) → Prop) (s : S) : Prop where
  ex : ∃ (ι : Type) (I : ι → S) (μ : ι → Nat), (∃ i σ, entP m σ s (I i)) ∧ ∀ i, capsP (I i).h → body (I i) fun s' => ∃ j σ, μ j < μ i ∧ entP m σ s' (I j)

theorem LoopK.mk' {m : Nat} {body : S → (S → Prop) → Prop} {s : S} (ι : Type) (I : ι → S) (μ : ι → Nat) (h0 : ∃ i σ, entP m σ s (I i)) (h : ∀ i, capsP (I i).h → body (I i) fun s' => ∃ j σ, μ j < μ i ∧ entP m σ s' (I j)) : LoopK m body s := ⟨ι, I, μ, h0, h⟩

def condK (s : S) (q : Operand) (A B : S → Prop) : Prop :=
  match q with
  | .tmp d => match s with
    | ⟨t0, h0⟩ => lk t0 d fun v => match v with
      | .c .tt => A ⟨t0, h0⟩
      | .c .ff => B ⟨t0, h0⟩
      | .c (.b b) => (b = true → A ⟨(d, .c .tt) :: t0, h0⟩) ∧ (b = false → B ⟨(d, .c .ff) :: t0, h0⟩)
      | _ => False
  | .const v => match v with
    | .bool true => A s
    | .bool false => B s
    | _ => False
  | _ => False

def wpC (P : Program) (tb : Tb) (N m : Nat) (c : Code) : S → (S → Prop) → (Nat → S → Prop) → (S → Prop) → Prop :=
  Code.rec (motive := fun _ => S → (S → Prop) → (Nat → S → Prop) → (S → Prop) → Prop)
    (fun s Kn _ _ => Kn s)
    (fun _ ops draw s Kn _ _ => match draw with
      | false => xops P tb N ops.toList ops.toList s Kn
      | true => xdraw P tb N ops.toList ops.toList.length 0 [] s Kn)
    (fun _ _ iha ihb s Kn Kx Kr => iha s (fun s => ihb s Kn Kx Kr) Kx Kr)
    (fun q _ _ iha ihb s Kn Kx Kr => condK s q (fun s => iha s Kn Kx Kr) (fun s => ihb s Kn Kx Kr))
    (fun id _ ih s Kn Kx Kr => ih s Kn (fun id' s' => match Nat.beq id' id with
      | true => Kn s'
      | false => Kx id' s') Kr)
    (fun _ ih s _ Kx Kr => LoopK m (fun s' K => ih s' K Kx Kr) s)
    (fun _ _ _ _ _ _ _ _ _ _ => False)
    (fun id s _ Kx _ => Kx id s)
    (fun _ _ _ _ _ _ => False)
    (fun _ s Kn _ _ => Kn s)
    (fun _ _ _ _ _ => False)
    (fun s _ _ Kr => Kr s)
    (fun _ _ _ _ _ => False) c

/-- What is asked of code, once and for all. -/
def okC : Code → Bool
  | .region _ ops draw => match draw with
    | false => true
    | true => okDraw ops
  | .seq a b => okC a && okC b
  | .cond _ a b => okC a && okC b
  | .block _ b => okC b
  | .loop b => okC b
  | _ => true

def Nk (cx : Cx) (K : S → Prop) (a : Act) (w : World) : Prop := ∃ β s, K s ∧ Rel cx β s a w

def post (cx : Cx) (Kn : S → Prop) (Kx : Nat → S → Prop) (Kr : S → Prop) : Exit → Act → World → Prop
  | .normal, a, w => Nk cx Kn a w
  | .exit id, a, w => Nk cx (Kx id) a w
  | .ret, a, w => Nk cx Kr a w
  | _, _, _ => False

theorem Rel.drew (hr : Rel cx β s a w) : Rel cx β s a { w with drawn := w.drawn + 1 } := by
  refine ⟨hr.dfr, hr.sz, hr.tm, ⟨fun f x => Ck.holds_block (hr.ft.ck f x) rfl, hr.ft.sep⟩, hr.wf, hr.ml, hr.pin, hr.os, hr.tape, hr.out, hr.hs, hr.fr, hr.ow, hr.kn⟩

theorem condK_of {q : Operand} {A B : S → Prop} (hr : Rel cx β s a w) (h : condK s q A B) : ∃ b s', a.eval q = .bool b ∧ Rel cx β s' a w ∧ (b = true → A s') ∧ (b = false → B s') := by
  obtain ⟨t0, h0⟩ := s
  cases q with
  | tmp d =>
    obtain ⟨v, hv, h1⟩ := lk_of h
    have he : a.eval (.tmp d) = v.ren β := by have := hr.tm.tm d v hv; simp [Act.eval, this]
    split at h1
    · exact ⟨true, ⟨t0, h0⟩, he, hr, fun _ => h1, fun e => by cases e⟩
    · exact ⟨false, ⟨t0, h0⟩, he, hr, fun e => (by cases e), fun _ => h1⟩
    · rename_i b
      cases hb : b with
      | true => exact ⟨true, ⟨(d, .c .tt) :: t0, h0⟩, by rw [he, hb]; rfl, hr.same hv (by simp [T.ren, C.ren, hb]) trivial, fun _ => h1.1 hb, fun e => by cases e⟩
      | false => exact ⟨false, ⟨(d, .c .ff) :: t0, h0⟩, by rw [he, hb]; rfl, hr.same hv (by simp [T.ren, C.ren, hb]) trivial, fun e => (by cases e), fun _ => h1.2 hb⟩
    · exact h1.elim
  | const v =>
    unfold condK at h
    simp only at h
    split at h
    · exact ⟨true, ⟨t0, h0⟩, rfl, hr, fun _ => h, fun e => by cases e⟩
    · exact ⟨false, ⟨t0, h0⟩, rfl, hr, fun e => (by cases e), fun _ => h⟩
    · exact h.elim
  | func f => exact h.elim
  | global g => exact h.elim

theorem wpC_of (hv : Valid tb P) (hmx : P.follows .mixedOrders = true) : ∀ (c : Code) (s : S) (Kn : S → Prop) (Kx : Nat → S → Prop) (Kr : S → Prop) (β : Nm) (a : Act) (w : World), okC c = true → Rel cx β s a w → wpC P tb cx.N cx.m c s Kn Kx Kr → c.wp P (post cx Kn Kx Kr) a w := by
  intro c
  induction c with
  | skip => intro s Kn Kx Kr β a w _ hr h; exact wp_skip ⟨β, s, h, hr⟩
  | label l => intro s Kn Kx Kr β a w _ hr h; exact wp_label ⟨β, s, h, hr⟩
  | region id ops draw =>
    intro s Kn Kx Kr β a w hok hr h
    cases draw with
    | false =>
      refine wp_region_list (xops_wp (n := s.h.length) rfl hv (β := β) (K := Kn) ?_ ops.toList β s a w (fun _ _ _ => rfl) (Nat.le_refl _) hr h)
      rintro a w ⟨β', s', hk, hr', _⟩
      exact ⟨β', s', hk, hr'⟩
    | true =>
      refine wp_region_any hmx (wpR_sound _ _ [] _ _ ?_)
      have hlen : ops.toList.length = ops.size := rfl
      refine xdraw_wp (n0 := s.h.length) (β := β) (K := Kn) rfl hv hok (fun c a w h => h) ?_ ops.size 0 [] s β _ [] a _ ⟨by simp, fun i hi => by simp [hi], fun k hk => by simp at hk⟩ trivial (fun _ _ _ => rfl) (Nat.le_refl _) hr.drew h
      rintro a w ⟨β', s', hk, hr', _⟩
      exact ⟨β', s', hk, hr'⟩
  | seq x y ihx ihy =>
    intro s Kn Kx Kr β a w hok hr h
    obtain ⟨hx, hy⟩ := Bool.and_eq_true_iff.1 hok
    refine wp_seq (wp_mono (ihx s _ Kx Kr β a w hx hr h) ?_)
    intro e a w hq
    cases e with
    | normal =>
      obtain ⟨β', s', hk, hr'⟩ := hq
      exact ihy s' Kn Kx Kr β' a w hy hr' hk
    | _ => exact hq
  | cond q x y ihx ihy =>
    intro s Kn Kx Kr β a w hok hr h
    obtain ⟨hx, hy⟩ := Bool.and_eq_true_iff.1 hok
    have h : condK s q (fun s => wpC P tb cx.N cx.m x s Kn Kx Kr) (fun s => wpC P tb cx.N cx.m y s Kn Kx Kr) := h
    obtain ⟨b, s', he, hr', hA, hB⟩ := condK_of hr h
    cases b with
    | true => exact wp_cond_true he (ihx s' Kn Kx Kr β a w hx hr' (hA rfl))
    | false => exact wp_cond_false he (ihy s' Kn Kx Kr β a w hy hr' (hB rfl))
  | block id b ih =>
    intro s Kn Kx Kr β a w hok hr h
    refine wp_block (wp_mono (ih s Kn _ Kr β a w hok hr h) ?_)
    intro e a w hq
    cases e with
    | exit id' =>
      obtain ⟨β', s', hk, hr'⟩ := hq
      simp only [Exit.inBlock]
      split at hk
      · rename_i hb
        rw [if_pos (Nat.eq_of_beq_eq_true hb)]
        exact ⟨β', s', hk, hr'⟩
      · rename_i hb
        rw [if_neg (Nat.ne_of_beq_eq_false hb)]
        exact ⟨β', s', hk, hr'⟩
    | _ => exact hq
  | loop b ih =>
    intro s Kn Kx Kr β a w hok hr h
    obtain ⟨ι, I, μ, ⟨i0, σ0, h0⟩, hround⟩ := h.ex
    obtain ⟨β0, hr0⟩ := entP_of hr h0
    refine wp_loop_ghost (fun n a w => ∃ i β, μ i = n ∧ Rel cx β (I i) a w) (μ i0) ⟨i0, β0, rfl, hr0⟩ ?_
    rintro n a w ⟨i, β, rfl, hr⟩
    refine wp_mono (ih (I i) _ Kx Kr β a w hok hr (hround i (capsP_of hr.ft))) ?_
    intro e a w hq
    cases e with
    | normal =>
      obtain ⟨β', s', ⟨j, σ, hlt, hj⟩, hr'⟩ := hq
      obtain ⟨β'', hr''⟩ := entP_of hr' hj
      exact ⟨μ j, hlt, j, β'', rfl, hr''⟩
    | _ => exact hq
  | exit id => intro s Kn Kx Kr β a w _ hr h; exact wp_exit ⟨β, s, h, hr⟩
  | ret => intro s Kn Kx Kr β a w _ hr h; exact wp_ret ⟨β, s, h, hr⟩
  | _ => intro s Kn Kx Kr β a w _ hr h; exact h.elim

/-! ### Results -/
def resK (tb : Tb) (s : S) : List ResultVar → (List T → Prop) → Prop
  | [], K => K []
  | .tmp t :: r, K => lk s.t t fun v => resK tb s r fun l => K (v :: l)
  | .cell x t :: r, K => lk s.t x fun u => match u with
    | .c ad => load tb s t ad fun v => resK tb s r fun l => K (v :: l)
    | _ => False

def toEs : List T → (List E → Prop) → Prop
  | [], K => K []
  | .c v :: r, K => toEs r fun l => K (.c v :: l)
  | .a v :: r, K => toEs r fun l => K (.a v :: l)
  | .t _ :: _, _ => False

def oneK (l : List T) (K : T → Prop) : Prop :=
  match l with
  | [v] => K v
  | l => toEs l fun es => K (.t es)

/-- The end: a result and a heap that the contract allows. -/
structure FinK (m : Nat) (s : S) (v : T) (Q : T → List Fam → Prop) : Prop where
  ex : ∃ (σ : List Sg) (v' : T) (h' : List Fam), Q v' h' ∧ entH m σ s.h h' (ifB (v'.belB h'.length) (v.eqK s.h.length (v'.rk σ 0) True))

def resV (tmps : Array Value) (r : ResultVar) : Sem Value :=
  match r with
  | .tmp t => pure (tmps.getD t undef)
  | .cell x t => do loadVar t (← asAddr (tmps.getD x undef))

theorem resK_of (hv : Valid tb P) (hr : Rel cx β s a w) : ∀ {rs : List ResultVar} {K : List T → Prop}, resK tb s rs K →
    ∃ vs, (rs.mapM (resV a.tmps)).run P w = .ok (vs.map (T.ren β)) w ∧ K vs
  | [], K, h => ⟨[], by rw [List.mapM_nil]; rfl, h⟩
  | .tmp t :: rs, K, h => by
    obtain ⟨v, hf, h1⟩ := lk_of h
    obtain ⟨vs, hrun, hk⟩ := resK_of hv hr h1
    have e : a.tmps.getD t undef = v.ren β := by have := hr.tm.tm t v hf; simp [this]
    refine ⟨v :: vs, ?_, hk⟩
    rw [List.mapM_cons]
    simp only [Sem.run_bind, resV, Sem.run_pure, Result.andThen_ok, hrun, e, List.map_cons]
  | .cell x t :: rs, K, h => by
    obtain ⟨u, hf, h1⟩ := lk_of h
    have e : a.tmps.getD x undef = u.ren β := by have := hr.tm.tm x u hf; simp [this]
    cases u with
    | c ad =>
      obtain ⟨f, y, hkey, r, hld, h2⟩ := load_of (β := β) hv h1
      obtain ⟨vs, hrun, hk⟩ := resK_of hv hr h2
      refine ⟨r :: vs, ?_, hk⟩
      have hl := hld w (hr.ft.ck f y)
      rw [List.mapM_cons]
      have e2 : (resV a.tmps (.cell x t)).run P w = .ok (r.ren β) w := by
        unfold resV
        simp only
        rw [e]
        cases ad <;> first | (cases hkey; done) | skip
        · simpa [Instr.loadAt, Instr.sureAddr, asAddr, T.ren, C.ren] using hl
        · simpa [Instr.loadAt, Instr.sureAddr, asAddr, T.ren, C.ren] using hl
      simp only [Sem.run_bind, e2, Sem.run_pure, Result.andThen_ok, hrun, List.map_cons]
    | _ => exact h1.elim

theorem resK_wf (hw : Wf s) : ∀ {rs : List ResultVar} {K K' : List T → Prop}, (∀ vs : List T, (∀ v ∈ vs, v.bel s.h.length) → K vs → K' vs) → resK tb s rs K → resK tb s rs K'
  | [], K, K', hk, h => hk [] (by simp) h
  | .tmp t :: rs, K, K', hk, h => lk_wf hw.t (fun v hv h => resK_wf hw (fun vs hvs h => hk _ (by
      intro u hu
      rcases List.mem_cons.1 hu with rfl | hu
      · exact hv
      · exact hvs u hu) h) h) h
  | .cell x t :: rs, K, K', hk, h => lk_wf hw.t (fun v hv h => by
      cases v with
      | c ad => exact load_wf hw (fun v hv h => resK_wf hw (fun vs hvs h => hk _ (by
          intro u hu
          rcases List.mem_cons.1 hu with rfl | hu
          · exact hv
          · exact hvs u hu) h) h) h
      | _ => exact h.elim) h

theorem toEs_of : ∀ {l : List T} {K : List E → Prop}, toEs l K → ∃ es, l.map (T.ren β) = es.map (E.ren β) ∧ (∀ n, (∀ v ∈ l, v.bel n) → ∀ e ∈ es, e.bel n) ∧ K es
  | [], K, h => ⟨[], rfl, by simp, h⟩
  | .c v :: r, K, h => by
    obtain ⟨es, h1, h2, hk⟩ := toEs_of (l := r) h
    exact ⟨.c v :: es, by simp [h1, T.ren, E.ren], fun n hn e he => by
      rcases List.mem_cons.1 he with rfl | he
      · exact hn (.c v) (by simp)
      · exact h2 n (fun v hv => hn v (by simp [hv])) e he, hk⟩
  | .a v :: r, K, h => by
    obtain ⟨es, h1, h2, hk⟩ := toEs_of (l := r) h
    exact ⟨.a v :: es, by simp [h1, T.ren, E.ren], fun n hn e he => by
      rcases List.mem_cons.1 he with rfl | he
      · exact hn (.a v) (by simp)
      · exact h2 n (fun v hv => hn v (by simp [hv])) e he, hk⟩
  | .t _ :: _, K, h => h.elim

theorem results_of (hv : Valid tb P) (hr : Rel cx β s a w) {fn : Func} {rs : List ResultVar} (hrs : fn.results.toList = rs) {K : T → Prop} (h : resK tb s rs fun l => oneK l K) :
    ∃ v : T, (results fn a.tmps).run P w = .ok (v.ren β) w ∧ K v := by
  obtain ⟨vs, hrun, hone⟩ := resK_of hv hr h
  have e : (results fn a.tmps).run P w = .ok (if h : (vs.map (T.ren β)).toArray.size = 1 then (vs.map (T.ren β)).toArray[0] else .tuple (vs.map (T.ren β)).toArray) w := by
    have el : results fn a.tmps = (do let vs ← fn.results.mapM (resV a.tmps); pure (if h : vs.size = 1 then vs[0] else .tuple vs)) := by
      unfold results
      congr 1
    rw [el, Array.mapM_eq_mapM_toList, hrs]
    simp only [Sem.run_bind, Sem.run_map, hrun, Result.andThen_ok, Sem.run_pure]
  rcases vs with _ | ⟨v, _ | ⟨u, r⟩⟩
  · have hone' : toEs [] fun es => K (.t es) := hone
    obtain ⟨es, h1, h2, hk⟩ := toEs_of (β := β) hone'
    exact ⟨.t es, by rw [e]; simp [T.ren, ← h1], hk⟩
  · exact ⟨v, by rw [e]; simp, hone⟩
  · have hone' : toEs (v :: u :: r) fun es => K (.t es) := hone
    obtain ⟨es, h1, h2, hk⟩ := toEs_of (β := β) hone'
    refine ⟨.t es, ?_, hk⟩
    rw [e, dif_neg (by simp)]
    simp only [T.ren, ← h1]

theorem oneK_bel {n : Nat} {l : List T} {K : T → Prop} (hl : ∀ v ∈ l, v.bel n) (h : oneK l K) : oneK l fun v => v.bel n ∧ K v := by
  match l, h with
  | [v], h => exact ⟨hl v (by simp), h⟩
  | [], h => exact ⟨by simp [T.bel], h⟩
  | u :: v :: r, h =>
    have key : ∀ (l : List T) (K : List E → Prop), (∀ v ∈ l, v.bel n) → toEs l K → toEs l fun es => (∀ e ∈ es, e.bel n) ∧ K es := by
      intro l
      induction l with
      | nil => intro K _ h; exact ⟨by simp, h⟩
      | cons q l ih =>
        intro K hl h
        cases q with
        | c v =>
          have h1 := ih (fun l => K (.c v :: l)) (fun v hv => hl v (by simp [hv])) h
          have hv : (E.c v).bel n := hl (.c v) (by simp)
          revert h1
          have mono : ∀ (l : List T) (A B : List E → Prop), (∀ es, A es → B es) → toEs l A → toEs l B := by
            intro l
            induction l with
            | nil => intro A B hab h; exact hab _ h
            | cons q l ih => intro A B hab h; cases q <;> first | exact ih _ _ (fun es he => hab _ he) h | exact h
          exact mono l _ _ (fun es he => ⟨fun e hm => by
            rcases List.mem_cons.1 hm with rfl | hm
            · exact hv
            · exact he.1 e hm, he.2⟩)
        | a v =>
          have h1 := ih (fun l => K (.a v :: l)) (fun v hv => hl v (by simp [hv])) h
          have hv : (E.a v).bel n := hl (.a v) (by simp)
          revert h1
          have mono : ∀ (l : List T) (A B : List E → Prop), (∀ es, A es → B es) → toEs l A → toEs l B := by
            intro l
            induction l with
            | nil => intro A B hab h; exact hab _ h
            | cons q l ih => intro A B hab h; cases q <;> first | exact ih _ _ (fun es he => hab _ he) h | exact h
          exact mono l _ _ (fun es he => ⟨fun e hm => by
            rcases List.mem_cons.1 hm with rfl | hm
            · exact hv
            · exact he.1 e hm, he.2⟩)
        | t v => exact h.elim
    exact key _ _ hl h

def zipI : Nat → List T → List (Nat × T)
  | _, [] => []
  | i, v :: r => (i, v) :: zipI (i + 1) r

theorem find_zip : ∀ {l : List T} {i0 i : Nat} {v : T}, find (zipI i0 l) i = some v → ∃ j, i = i0 + j ∧ l[j]? = some v
  | [], i0, i, v, h => by cases h
  | u :: r, i0, i, v, h => by
    unfold zipI find at h
    split at h
    · rename_i he
      cases h
      exact ⟨0, by omega, rfl⟩
    · obtain ⟨j, h1, h2⟩ := find_zip h
      exact ⟨j + 1, by omega, by simpa using h2⟩

/-- How a contract is shown. -/
theorem Ctr.mk' {F : Nat} {fn : Func} {c : Code} {N : Nat} {args : List T} {h : List Fam} {Q : T → List Fam → Prop} {rs : List ResultVar} (hv : Valid tb P) (hmx : P.follows .mixedOrders = true) (hf : P.funcs[F]? = some fn) (hb : fn.body = some c) (hN : fn.ntmps = N)
    (hrs : fn.results.toList = rs) (hcf : ∀ (args : Array Value) (W : World), (callFunc F args).run P W = .ok (.enter F args) W) (hok : okC c = true) (hal : Nat.ble args.length N = true) (hab : args.all (T.belB h.length) = true) (hbk : belsK h.length h True)
    (hwp : capsP h → wpC P tb N h.length c ⟨zipI 0 args, h⟩ (fun s => resK tb s rs fun l => oneK l fun v => FinK h.length s v Q) (fun _ _ => False) (fun s => resK tb s rs fun l => oneK l fun v => FinK h.length s v Q)) : Ctr P F args h Q := by
  refine ⟨hcf, fun β W hfit => calls_of_wp hf hb ?_⟩
  have hal := Nat.le_of_ble_eq_true hal
  obtain ⟨hbel, _⟩ := belsK_of hbk (fun f x => hfit.flat f x)
  let cx : Cx := ⟨W, fun b => ∃ f x, (get h f x).owned = true ∧ (β f x).1 = b, fun b => ∃ f x, (get h f x).known = true ∧ (β f x).1 = b, h.length, β, N⟩
  have hsz : (args.map (T.ren β)).toArray.size = args.length := by simp
  have hr : Rel cx β ⟨zipI 0 args, h⟩ { tmps := (args.map (T.ren β)).toArray ++ Array.replicate (fn.ntmps - (args.map (T.ren β)).toArray.size) undef, defers := [] } W := by
    refine ⟨rfl, ?_, ⟨fun i v hv => ?_⟩, hfit, ⟨fun i v hv => ?_, hbel⟩, Nat.le_refl _, fun _ _ _ => rfl, rfl, rfl, rfl, Nat.le_refl _, fun _ _ _ => rfl, fun f x ho => .inl ⟨f, x, ho, rfl⟩, fun f x ho => .inl ⟨f, x, ho, rfl⟩⟩
    · show _ = N
      simp only [Array.size_append, Array.size_replicate, hsz]
      omega
    · obtain ⟨j, hj, hl⟩ := find_zip hv
      have hjl := (List.getElem?_eq_some_iff.1 hl).1
      simp only
      rw [Array.getElem?_append_left (by rw [hsz]; omega)]
      have : i = j := by omega
      subst this
      simp [hl]
    · obtain ⟨j, hj, hl⟩ := find_zip hv
      exact T.belB_bel (List.all_eq_true.1 hab v (List.mem_of_getElem? hl))
  have hmain := wpC_of hv hmx c _ _ _ _ β _ W hok hr (hwp (capsP_of hfit))
  have fin : ∀ a w, Nk cx (fun s => resK tb s rs fun l => oneK l fun v => FinK h.length s v Q) a w → a.defers = [] ∧ ∃ v, (results fn a.tmps).run P w = .ok v w ∧
      ∃ v0 h' β', Q v0 h' ∧ Ending.returned v = .returned (v0.ren β') ∧ v0.bel h'.length ∧ Left β h W β' h' w := by
    rintro a w ⟨β1, s1, hk, hr1⟩
    obtain ⟨v, hrun, hvb1, hfin⟩ := results_of hv hr1 hrs (resK_wf hr1.wf (fun vs hvs h => oneK_bel hvs h) hk)
    obtain ⟨σ, v', h', hQ, hent⟩ := hfin.ex
    obtain ⟨β2, β', hr2, hag2, hna, hβ, hrel, hrest⟩ := entH_of hr1 hent
    obtain ⟨hvb, heq⟩ := ifB_of hrest
    obtain ⟨he, _⟩ := eqT_of heq
    have hr' := hrel [] (fun i v hv => by cases hv)
    refine ⟨hr1.dfr, _, hrun, v', h', β', hQ, ?_, T.belB_bel hvb, ?_⟩
    · rw [T.ren_agree hvb1 hag2, he β2 hna, rk_T hβ]
    · exact ⟨hr'.ml, hr'.pin, hr'.ft, ⟨fun i v hv => (by cases hv), hr'.wf.h⟩, hr'.os, hr'.tape, hr'.out, hr'.hs, fun b hb hne => hr'.fr b hb (by rintro ⟨f, x, ho, e⟩; exact hne f x ho e), hr'.ow, hr'.kn⟩
  refine wp_mono hmain ?_
  intro e a w hq
  cases e with
  | normal => exact fin a w hq
  | ret => exact fin a w hq
  | exit id =>
    obtain ⟨_, _, hk, _⟩ := hq
    exact hk.elim
  | _ => exact hq.elim
end Go.X

namespace Go.X
theorem all_one {p : Nat → Prop} (h : p 0) : ∀ i, i < 1 → p i := by
  intro i hi
  have : i = 0 := by omega
  subst this; exact h
theorem Ctr.mono' {P : Program} {F : Nat} {args : List T} {h : List Fam} {Q Q' : T → List Fam → Prop} (hc : Ctr P F args h Q) (hq : ∀ v h', Q v h' → Q' v h') : Ctr P F args h Q' :=
  ⟨hc.cf, fun β W hf => (hc.run β W hf).mono fun e W' hh => by
    obtain ⟨v, h', β', h1, h2⟩ := hh
    exact ⟨v, h', β', hq v h' h1, h2⟩⟩

/-- A known answer. -/
theorem Ctr.tt {P : Program} {F : Nat} {args : List T} {h : List Fam} {R : List Fam → Prop} (hc : Ctr P F args h fun v h' => ∃ b, v = .c (.b b) ∧ b = true ∧ R h') : Ctr P F args h fun v h' => v = .c .tt ∧ R h' :=
  ⟨hc.cf, fun β W hf => (hc.run β W hf).mono fun e W' hh => by
    obtain ⟨v, h', β', ⟨b, rfl, rfl, hR⟩, he, _, hl⟩ := hh
    exact ⟨.c .tt, h', β', ⟨rfl, hR⟩, he, trivial, hl⟩⟩
theorem n1 {p : Prop} [Decidable p] : (decide p = true) = p := decide_eq_true_eq
theorem n2 {p : Prop} {_ : Decidable p} : decide p = false ↔ ¬p := decide_eq_false_iff_not
theorem n3 (b : Bool) : ((!b) = true) = (b = false) := Bool.not_eq_true' b
theorem n4 (b : Bool) : ((!b) = false) = (b = true) := Bool.not_eq_false' b
theorem n5 (a b : Bool) : ((a && b) = true) = (a = true ∧ b = true) := Bool.and_eq_true a b
theorem n6 {x y : Bool} : (x && y) = false ↔ x = false ∨ y = false := Bool.and_eq_false_iff
theorem n7 (a b : Bool) : ((a || b) = true) = (a = true ∨ b = true) := Bool.or_eq_true a b
theorem n8 {x y : Bool} : (x || y) = false ↔ x = false ∧ y = false := Bool.or_eq_false_iff
theorem n9 (b : Bool) : (b && true) = b := Bool.and_true b
theorem n10 {a b : Int} : ¬a < b ↔ b ≤ a := Int.not_lt
theorem n11 {a b : Int} : ¬a ≤ b ↔ b < a := Int.not_le
theorem n12 : (¬True) = False := not_true_eq_false
theorem n13 (p : Prop) : (p ∨ p) = p := or_self p
theorem n14 (p : Prop) : (True ∧ p) = p := true_and p
theorem n15 : (true = false) = False := Bool.true_eq_false
theorem n16 : (false = true) = False := Bool.false_eq_true
theorem n17 : (¬False) = True := not_false_eq_true
theorem n18 {α : Type _} [BEq α] [ReflBEq α] {a : α} : (a == a) = true := beq_self_eq_true a
theorem n19 (h : Decidable True) : @decide True h = true := decide_true h
theorem n20 (h : Decidable False) : @decide False h = false := decide_false h
theorem n21 (n : Nat) : (n : Int).toNat = n := rfl
theorem n22 (n : Nat) : 0 + n = n := Nat.zero_add n
theorem m1 {α β : Type _} {f : α → β} {a : α} {l : List α} : List.map f (a :: l) = f a :: List.map f l := rfl
theorem m2 {α β : Type _} {f : α → β} : List.map f [] = [] := rfl
theorem m3 {α : Type _} {a : α} {l m : List α} : (a :: l) ++ m = a :: (l ++ m) := rfl
theorem m4 {α : Type _} (l : List α) : [] ++ l = l := rfl
theorem m5 {α : Type _} {a : α} {l : List α} : (a :: l).length = l.length + 1 := rfl
theorem m6 {α : Type _} : ([] : List α).length = 0 := rfl
theorem m7 {α β : Type _} (a : α) (f : α → β) : Option.map f (some a) = some (f a) := rfl
theorem m8 {α β : Type _} (a : α) (f : α → Option β) : (some a).bind f = f a := rfl
theorem m9 (n : Nat) : n + 0 = n := rfl
theorem m10 (n m : Nat) : n + m - n = m := Nat.add_sub_cancel_left n m
theorem m11 {α : Type _} {p : α → Bool} {a : α} {l : List α} : (a :: l).all p = (p a && l.all p) := rfl
theorem m12 {α : Type _} {p : α → Bool} : ([] : List α).all p = true := rfl
theorem m13 {α : Type _} {l m : List α} : List.append l m = l ++ m := rfl
theorem m14 : (!true) = false := rfl
theorem m15 (b : Bool) : (b || false) = b := Bool.or_false b
theorem m16 (b : Bool) : (b || b) = b := Bool.or_self b
theorem m17 : (!false) = true := rfl
theorem m18 {α : Type _} (l : List α) : l ++ [] = l := List.append_nil l
theorem m19 (b : Bool) : (b && b) = b := Bool.and_self b
theorem bff {b : Bool} {p : Prop} (h1 : b = false) (h2 : b = true) : p := by rw [h1] at h2; cases h2
theorem kL {m : Nat} {body : S → (S → Prop) → Prop} {s : S} (h : LoopK m body s) : LoopK m body s := h
theorem kC {P : Program} {F : Nat} {args : List T} {H : List Fam} {K : T → List Fam → Prop} (h : CallK P F args H K) : CallK P F args H K := h
theorem kF {m : Nat} {s : S} {v : T} {Q : T → List Fam → Prop} (h : FinK m s v Q) : FinK m s v Q := h
theorem kM {c : Ck} {K : Ck → Prop} (h : ManyK c K) : ManyK c K := h
/-- A call, the heap's length reckoned by itself. -/
theorem CallK.mk3 {P : Program} {F : Nat} {args : List T} {H : List Fam} {K : T → List Fam → Prop} {σ : List Sg} {nl : List Fam} {args0 : List T} {h0 : List Fam} {Q : T → List Fam → Prop} {H2 H1 : List Fam} {N n : Nat} (hc : Ctr P F args0 h0 Q) (hap : apart σ = true) (hnl : nl.all nilB = true)
    (h1 : H ++ nl = H1) (hN : H1.length = N) (hn : H.length = n)
    (hH : givesF σ N H1 σ h0 = some H2) (hle : leS n H1 σ N σ h0 (belsK N (h0.map (Fam.rk σ N)) (argsK n args (args0.map (T.rk σ N)) True)))
    (hk : ∀ v h', Q v h' → capsP h' → RetG σ H2 h' v K) : CallK P F args H K := by
  subst h1 hN hn
  exact CallK.mk2 hc hap hnl hH hle hk
theorem ret_mk3 {σ : List Sg} {H h' : List Fam} {v : T} {K : T → List Fam → Prop} {H' : List Fam} {v' : T} {N : Nat} (hN : H.length = N) (h : givesF σ N H σ h' = some H') (hv : v.rk σ N = v') (hk : K v' H') : RetG σ H h' v K := by
  subst hN
  exact ret_mk h hv hk
end Go.X

set_option linter.unusedVariables false
namespace Go.X
open Go.RowKit Go.ChangeShapes Go.WideShapes Go.OpenShut

inductive K where
  | i (k : IntKind) | b | s | sl (ks : List K)

def repK : Nat → List K → List K
  | 0, _ => []
  | n + 1, l => l ++ repK n l

def kindsF (P : Program) (f : TypeId → Option (List K)) : List Field → Nat → Option (List K)
  | [], _ => some []
  | g :: r, o => if Nat.beq g.offset o then (f g.type).bind fun ks => if Nat.beq ks.length (P.cellsOf g.type) then (kindsF P f r (o + ks.length)).map fun q => ks ++ q else none else none

def kindsOf (P : Program) : Nat → TypeId → Option (List K)
  | 0, _ => none
  | n + 1, t => match P.underlying t with
    | some (.int k) => some [.i k]
    | some .bool => some [.b]
    | some .string => some [.s]
    | some (.slice e) => (kindsOf P n e).bind fun ks => if Nat.beq ks.length (P.cellsOf e) && Nat.blt 0 ks.length then some [.sl ks] else none
    | some (.struct fs) => (kindsF P (kindsOf P n) fs.toList 0).bind fun ks => if Nat.beq ks.length (P.cellsOf t) then some ks else none
    | some (.array m e) => (kindsOf P n e).bind fun ks => if Nat.beq ks.length (P.cellsOf e) && Nat.beq (m * ks.length) (P.cellsOf t) then some (repK m ks) else none
    | _ => none

mutual
def VK (W : World) : K → Value → Prop
  | .i k, v => ∃ n, v = .int k n ∧ k.min ≤ n ∧ n ≤ k.max
  | .b, v => ∃ x, v = .bool x
  | .s, v => ∃ x : ByteArray, v = .string x ∧ x.size ≤ 140737488351232
  | .sl ks, v => v = .slice none 0 0 ∨ ∃ (a : Addr) (n c : Nat), v = .slice (some a) n c ∧ n ≤ c ∧ c ≤ maxLen ∧
      (c = 0 ∨ (a.spot = none ∧ a.block < W.heap.size ∧ ∃ cur te fz, W.heap[a.block]? = some (.cells cur te fz) ∧ ∀ i, i < n → VKs W ks ((cur.toList.drop (a.off + i * ks.length)).take ks.length)))
def VKs (W : World) : List K → List Value → Prop
  | [], [] => True
  | k :: ks, v :: vs => VK W k v ∧ VKs W ks vs
  | _, _ => False
end

theorem VKs_app {W : World} : ∀ {ks ls : List K} {cs ds : List Value}, VKs W ks cs → VKs W ls ds → VKs W (ks ++ ls) (cs ++ ds)
  | [], _, [], _, _, h => by simpa using h
  | [], _, _ :: _, _, h, _ => by simp [VKs] at h
  | _ :: _, _, [], _, h, _ => by simp [VKs] at h
  | k :: ks, ls, c :: cs, ds, h, h2 => by
    simp only [VKs] at h
    simp only [List.cons_append, VKs]
    exact ⟨h.1, VKs_app h.2 h2⟩

theorem wf_bounds {k : IntKind} {n : Int} (h : (Lit.int k n).wf = true) : k.min ≤ n ∧ n ≤ k.max := by simpa [Lit.wf] using h

section
variable {H : Type} {enc : TypeId × Value → H} {P : Program} {W : World}

theorem weights_part {fs : List TypeId} {ds : List (DataW H)} : ∀ {i : Nat} {t d}, fs[i]? = some t → ds[i]? = some d → ∀ n ∈ d.weights P t, n ∈ DataW.weightsEach P fs ds :=
  fun h1 h2 => DataW.weights_mem_each h1 h2

theorem weightsAll_mem' {e : TypeId} {l : List (DataW H)} {d : DataW H} (hd : d ∈ l) {n : Nat} (hn : n ∈ d.weights P e) : n ∈ DataW.weightsAll P e l := by
  induction l with
  | nil => simp at hd
  | cons x l ih =>
    rw [DataW.weightsAll, List.mem_append]
    rcases List.mem_cons.1 hd with rfl | h
    · exact .inl hn
    · exact .inr (ih h)

theorem cells_take {a : Addr} {n : Nat} {cs : List Value} (h : W.cells? 0 a n = some cs) (h0 : 0 < n) :
    a.spot = none ∧ ∃ cur te fz, W.heap[a.block]? = some (.cells cur te fz) ∧ cs = (cur.toList.drop a.off).take n := by
  obtain ⟨_, hlen, hget⟩ := World.cells?_some h
  have h1 := hget 0 h0
  rw [List.getElem?_eq_getElem (by omega)] at h1
  have hspot : a.spot = none := by simpa [Addr.add] using World.cell?_spot h1
  obtain ⟨b, off, spot⟩ := a
  subst hspot
  refine ⟨rfl, ?_⟩
  have hb : ∃ cur te fz, W.heap[b]? = some (.cells cur te fz) := by
    unfold World.cell? at h1
    split at h1
    · rename_i c e f hh
      refine ⟨c, e, f, ?_⟩
      rw [← hh]
      simp [Addr.add]
    · cases h1
  obtain ⟨cur, te, fz, hh⟩ := hb
  refine ⟨cur, te, fz, hh, ?_⟩
  have hcell : ∀ i, W.cell? ((⟨b, off, none⟩ : Addr).add i) = cur[off + i]? := by
    intro i
    have e : ((⟨b, off, none⟩ : Addr).add i) = ⟨b, off + i, none⟩ := by unfold Addr.add; split <;> simp_all
    rw [e]
    exact cell_at hh
  apply List.ext_getElem?
  intro i
  by_cases hi : i < n
  · rw [← hget i hi, hcell, List.getElem?_take, if_pos hi, List.getElem?_drop, Array.getElem?_toList]
  · rw [List.getElem?_eq_none (by omega), List.getElem?_take, if_neg hi]

theorem repK_len (n : Nat) (ks : List K) : (repK n ks).length = n * ks.length := by
  induction n with
  | zero => simp [repK]
  | succ n ih => simp [repK, ih, Nat.add_mul, Nat.add_comm]

theorem VKs_len {W : World} : ∀ {ks : List K} {cs : List Value}, VKs W ks cs → cs.length = ks.length
  | [], [], _ => rfl
  | [], _ :: _, h => by simp [VKs] at h
  | _ :: _, [], h => by simp [VKs] at h
  | k :: ks, c :: cs, h => by
    simp only [VKs] at h
    simp [VKs_len h.2]

theorem VKs_rep {ks : List K} : ∀ {n : Nat} {cs : List Value}, (∀ i, i < n → VKs W ks ((cs.drop (i * ks.length)).take ks.length)) → cs.length = n * ks.length → VKs W (repK n ks) cs
  | 0, cs, _, hl => by
    have : cs = [] := List.length_eq_zero_iff.1 (by omega)
    subst this
    simp [repK, VKs]
  | n + 1, cs, h, hl => by
    have h0 := h 0 (by omega)
    simp only [Nat.zero_mul, List.drop_zero] at h0
    have hr : VKs W (repK n ks) (cs.drop ks.length) := by
      refine VKs_rep (fun i hi => ?_) (by rw [List.length_drop, hl, Nat.add_mul]; omega)
      have := h (i + 1) (by omega)
      rwa [Nat.add_mul, Nat.one_mul, Nat.add_comm, ← List.drop_drop] at this
    have := VKs_app h0 hr
    rwa [List.take_append_drop] at this

theorem kindsOf_trod : ∀ (n fuel : Nat) {t : TypeId} {ks : List K} {cs : List Value} {x : DataW H × List MemPlace}, kindsOf P n t = some ks → DataW.trod enc P W 0 (fun _ => true) true fuel t cs = some x →
    (∀ p ∈ x.2, p.block < W.heap.size) → (∀ q ∈ x.1.weights P t, q ≤ reachBytes) → VKs W ks cs := by
  intro n
  induction n with
  | zero => intro fuel t ks cs x hk; simp [kindsOf] at hk
  | succ n ih =>
    intro fuel t ks cs x hk h hlt hw
    unfold kindsOf at hk
    split at hk
    · rename_i k hu
      cases hk
      obtain ⟨v, rfl, _, hwf⟩ := DataW.trod_int hu h
      exact ⟨⟨v, rfl, wf_bounds hwf⟩, trivial⟩
    · rename_i hu
      cases hk
      obtain ⟨v, rfl, _⟩ := DataW.trod_bool hu h
      exact ⟨⟨v, rfl⟩, trivial⟩
    · rename_i hu
      cases hk
      obtain ⟨v, rfl, rfl, hs⟩ := DataW.trod_string hu h
      refine ⟨⟨v, rfl, ?_⟩, trivial⟩
      have := hw v.data.toList.length (by simp [DataW.weights])
      rw [Array.length_toList] at this
      exact this
    · rename_i e hu
      obtain ⟨kl, hkl, hk⟩ := Option.bind_eq_some_iff.1 hk
      split at hk
      case isFalse => cases hk
      rename_i hz
      cases hk
      obtain ⟨hz, hz0⟩ := Bool.and_eq_true_iff.1 hz
      have hz := Nat.eq_of_beq_eq_true hz
      have hz0 : 0 < kl.length := by simpa using hz0
      rcases DataW.trod_slice hu h with ⟨rfl, _⟩ | ⟨a, len, cap, elems, rest, m, _, rfl, rfl, _, hl, hm, hlen, hel, hsp, _⟩
      · exact ⟨.inl rfl, trivial⟩
      · refine ⟨.inr ⟨a, len, cap, rfl, hl, hm, ?_⟩, trivial⟩
        rcases Nat.eq_zero_or_pos cap with hc | hc
        · exact .inl hc
        right
        obtain ⟨hrl, hr⟩ := hsp rfl
        have hblk : a.block < W.heap.size := hlt (.cell a.block a.off) (List.mem_append_left _ (MemPlace.mem_row.2 ⟨0, by rw [hlen, hrl, show len + (cap - len) = cap by omega, ← hz]; exact Nat.mul_pos hc hz0, by simp⟩))
        -- one of the elements is read
        have hread : ∀ i, i < cap → ∃ cs' y, W.cells? 0 (a.add (i * P.cellsOf e)) (P.cellsOf e) = some cs' ∧ (i < len → DataW.trod enc P W 0 (fun _ => true) true m e cs' = some y ∧ elems[i]? = some y) := by
          intro i hi
          by_cases hil : i < len
          · have h1 := hel i hil
            rw [List.getElem?_eq_getElem (by omega)] at h1
            obtain ⟨cs', hcs, hy⟩ := Option.bind_eq_some_iff.1 h1
            exact ⟨cs', _, hcs, fun _ => ⟨hy, List.getElem?_eq_getElem (by omega)⟩⟩
          · have h1 := hr (i - len) (by omega)
            rw [List.getElem?_eq_getElem (by omega), show len + (i - len) = i by omega] at h1
            obtain ⟨cs', hcs, hy⟩ := Option.bind_eq_some_iff.1 h1
            exact ⟨cs', (DataW.nil, []), hcs, fun hh => absurd hh hil⟩
        obtain ⟨cs0, y0, hc0, _⟩ := hread 0 hc
        rw [Nat.zero_mul, show a.add 0 = a by simp [Addr.add]] at hc0
        obtain ⟨hspot, cur, te, fz, hh, _⟩ := cells_take hc0 (by omega)
        refine ⟨hspot, hblk, cur, te, fz, hh, fun i hi => ?_⟩
        obtain ⟨cs', y, hcs, hy⟩ := hread i (by omega)
        obtain ⟨hy, hmem⟩ := hy hi
        obtain ⟨_, cur', te', fz', hh', rfl⟩ := cells_take hcs (by omega)
        have hb' : (a.add (i * P.cellsOf e)).block = a.block := by unfold Addr.add; split <;> rfl
        have ho' : (a.add (i * P.cellsOf e)).off = a.off + i * P.cellsOf e := by unfold Addr.add; split <;> simp_all
        rw [hb'] at hh'
        rw [hh] at hh'
        cases hh'
        rw [ho', ← hz] at hy
        have hye : y ∈ elems := List.mem_of_getElem? hmem
        refine ih m hkl hy (fun p hp => hlt p (List.mem_append_right _ (List.mem_flatMap.2 ⟨y, List.mem_append_left _ hye, hp⟩))) (fun q hq => hw q ?_)
        simp only [DataW.weights, hu]
        exact List.mem_cons_of_mem _ (List.mem_append_left _ (weightsAll_mem' (List.mem_map.2 ⟨y, hye, rfl⟩) hq))
    · rename_i fs hu
      obtain ⟨kl, hkl, hk⟩ := Option.bind_eq_some_iff.1 hk
      split at hk
      case isFalse => cases hk
      rename_i hz
      cases hk
      have hz := Nat.eq_of_beq_eq_true hz
      obtain ⟨xs, m, _, rfl, hcl, hxl, hx⟩ := DataW.trod_struct hu h
      have hxl' : xs.length = fs.toList.length := by simpa using hxl
      have hw' : ∀ (i : Nat) (f : Field) (y : DataW H × List MemPlace), fs.toList[i]? = some f → xs[i]? = some y → ∀ q ∈ y.1.weights P f.type, q ≤ reachBytes := by
        intro i f y hf hy q hq
        refine hw q ?_
        simp only [DataW.weights, hu]
        exact DataW.weights_mem_each (j := i) (t := f.type) (d := y.1) (by simp [List.getElem?_map, hf]) (by simp [List.getElem?_map, hy]) q hq
      have hlt' : ∀ y ∈ xs, ∀ p ∈ y.2, p.block < W.heap.size := fun y hy p hp => hlt p (List.mem_flatMap.2 ⟨y, hy, hp⟩)
      have hx' : ∀ (i : Nat) (f : Field), fs.toList[i]? = some f → DataW.trod enc P W 0 (fun _ => true) true m f.type ((cs.drop f.offset).take (P.cellsOf f.type)) = xs[i]? := fun i f hf => hx i f (by rw [← Array.getElem?_toList]; exact hf)
      clear hx h hw hlt
      have key : ∀ (l : List Field) (j o : Nat) (kl : List K), kindsF P (kindsOf P n) l o = some kl → (∀ (i : Nat) (f : Field), l[i]? = some f → fs.toList[j + i]? = some f) → o + kl.length ≤ cs.length → VKs W kl ((cs.drop o).take kl.length) := by
        intro l
        induction l with
        | nil =>
          intro j o kl hg _ _
          simp only [kindsF, Option.some.injEq] at hg
          subst hg
          simp [VKs]
        | cons f r ihl =>
          intro j o kl hg hf hle
          unfold kindsF at hg
          split at hg
          case isFalse => cases hg
          rename_i ho
          have ho := Nat.eq_of_beq_eq_true ho
          subst ho
          obtain ⟨k1, hk1, hg⟩ := Option.bind_eq_some_iff.1 hg
          split at hg
          case isFalse => cases hg
          rename_i hz1
          have hz1 := Nat.eq_of_beq_eq_true hz1
          obtain ⟨k2, hk2, rfl⟩ := Option.map_eq_some_iff.1 hg
          have hfj := hf 0 f rfl
          have hxj := hx' j f hfj
          rw [List.getElem?_eq_getElem (by have := (List.getElem?_eq_some_iff.1 hfj).1; omega)] at hxj
          have hjl : j < xs.length := by have := (List.getElem?_eq_some_iff.1 hfj).1; omega
          have h1 := ih m hk1 hxj (hlt' _ (List.getElem_mem hjl)) (hw' j f _ hfj (List.getElem?_eq_getElem hjl))
          rw [← hz1] at h1
          rw [List.length_append] at hle
          have h2 := ihl (j + 1) (f.offset + k1.length) k2 hk2 (fun i g hi => by have := hf (i + 1) g (by simpa using hi); rwa [show j + 1 + i = j + (i + 1) by omega]) (by omega)
          have := VKs_app h1 h2
          rw [← List.drop_drop] at this
          rw [List.length_append]
          rwa [← List.take_add] at this
      have := key fs.toList 0 0 _ hkl (fun i f hf => by simpa using hf) (by omega)
      rw [List.drop_zero, List.take_of_length_le (by omega)] at this
      exact this
    · rename_i m e hu
      obtain ⟨kl, hkl, hk⟩ := Option.bind_eq_some_iff.1 hk
      split at hk
      case isFalse => cases hk
      rename_i hz
      cases hk
      obtain ⟨hz, hz2⟩ := Bool.and_eq_true_iff.1 hz
      have hz := Nat.eq_of_beq_eq_true hz
      have hz2 := Nat.eq_of_beq_eq_true hz2
      obtain ⟨xs, f, _, rfl, hcl, hxl, hx⟩ := DataW.trod_array hu h
      refine VKs_rep (fun i hi => ?_) (by omega)
      have h1 := hx i hi
      rw [List.getElem?_eq_getElem (by omega), ← hz] at h1
      have hmem : xs[i]'(by omega) ∈ xs := List.getElem_mem _
      refine ih f hkl h1 (fun p hp => hlt p (List.mem_flatMap.2 ⟨_, hmem, hp⟩)) (fun q hq => hw q ?_)
      simp only [DataW.weights, hu]
      exact weightsAll_mem' (List.mem_map.2 ⟨_, hmem, rfl⟩) hq
    · cases hk
end
end Go.X

set_option linter.unusedVariables false
namespace Go.X
open Go.RowKit Go.ChangeShapes Go.WideShapes Go.OpenShut

def K.flatB : K → Bool
  | .sl _ => false
  | _ => true

/-- Cells of flat kinds. -/
def FT : List K → List C → Prop
  | [], [] => True
  | .i k :: ks, c :: l => (∃ n, c = .i k n ∧ k.min ≤ n ∧ n ≤ k.max) ∧ FT ks l
  | .b :: ks, c :: l => (∃ x, c = .b x) ∧ FT ks l
  | .s :: ks, c :: l => (∃ x : ByteArray, c = .s x ∧ x.size ≤ 140737488351232) ∧ FT ks l
  | _, _ => False

theorem flat_view {W : World} : ∀ {ks : List K} {vs : List Value}, ks.all K.flatB = true → VKs W ks vs → ∃ l : List C, FT ks l ∧ (∀ β, l.map (C.ren β) = vs) ∧ (∀ v ∈ l, v.flat = true) ∧ l.length = ks.length
  | [], [], _, _ => ⟨[], trivial, fun _ => rfl, by simp, rfl⟩
  | [], _ :: _, _, h => by simp [VKs] at h
  | _ :: _, [], _, h => by simp [VKs] at h
  | k :: ks, v :: vs, hf, h => by
    simp only [VKs] at h
    simp only [List.all_cons, Bool.and_eq_true] at hf
    obtain ⟨l, h1, h2, h3, h4⟩ := flat_view hf.2 h.2
    cases k with
    | i k =>
      obtain ⟨n, rfl, hb⟩ := h.1
      exact ⟨.i k n :: l, ⟨⟨n, rfl, hb⟩, h1⟩, fun β => by simp [h2, C.ren], by simpa [C.flat] using h3, by simp [h4]⟩
    | b =>
      obtain ⟨x, rfl⟩ := h.1
      exact ⟨.b x :: l, ⟨⟨x, rfl⟩, h1⟩, fun β => by simp [h2, C.ren], by simpa [C.flat] using h3, by simp [h4]⟩
    | s =>
      obtain ⟨x, rfl, hb⟩ := h.1
      exact ⟨.s x :: l, ⟨⟨x, rfl, hb⟩, h1⟩, fun β => by simp [h2, C.ren], by simpa [C.flat] using h3, by simp [h4]⟩
    | sl ks => simp [K.flatB] at hf

/-- The name of a slice's row. -/
def nameOf : Value → Nat × Nat × Fl
  | .slice none _ _ => (0, 0, .nil)
  | .slice (some ⟨b, o, none⟩) _ _ => (b, o, .live)
  | .slice (some ⟨b, o, some q⟩) _ _ => (b, o, .odd q)
  | _ => (0, 0, .nil)
theorem name_ren {β : Nm} {f x z n c : Nat} {a : Option Addr} (h : β f x = nameOf (.slice a n c)) : (C.sl f x z 0 n c).ren β = .slice a n c := by
  rw [sl_adr]
  unfold adr place
  rw [h]
  rcases a with _ | ⟨b, o, _ | q⟩ <;> simp [nameOf, Addr.add]

/-- A slice of flat elements. -/
theorem sl_view {W : World} {ks : List K} {v : Value} (hf : ks.all K.flatB = true) (h : VK W (.sl ks) v) :
    ∃ (n c : Nat) (g : Nat → List C), (∀ β f x z, β f x = nameOf v → (C.sl f x z 0 n c).ren β = v) ∧ (∀ β e, (Ck.row false false e ks.length n c g).holds β W (nameOf v)) ∧ n ≤ maxLen ∧ c ≤ maxLen ∧ n ≤ c ∧ ∀ i, i < n → FT ks (g i) := by
  simp only [VK] at h
  rcases h with rfl | ⟨a, n, c, rfl, hnc, hcm, hh⟩
  · exact ⟨0, 0, fun _ => [], fun β f x z hb => name_ren hb, fun β e => ⟨by omega, fun _ => rfl, fun _ i hi => by omega, fun i hi => by omega, fun h => absurd rfl h⟩, by unfold maxLen; omega, by unfold maxLen; omega, by omega, fun i hi => by omega⟩
  · rcases hh with rfl | ⟨hs, hblk, cur, te, fz, hcur, hrow⟩
    · obtain rfl : n = 0 := by omega
      exact ⟨0, 0, fun _ => [], fun β f x z hb => name_ren hb, fun β e => ⟨by omega, fun _ => rfl, fun _ i hi => by omega, fun i hi => by omega, fun h => absurd rfl h⟩, by omega, hcm, by omega, fun i hi => by omega⟩
    · obtain ⟨b, off, spot⟩ := a
      simp only at hs hblk hcur hrow
      subst hs
      have hch : ∀ i, ∃ l : List C, i < n → FT ks l ∧ (∀ β, l.map (C.ren β) = ((cur.toList.drop (off + i * ks.length)).take ks.length)) ∧ (∀ v ∈ l, v.flat = true) ∧ l.length = ks.length := by
        intro i
        by_cases hi : i < n
        · obtain ⟨l, h⟩ := flat_view hf (hrow i hi)
          exact ⟨l, fun _ => h⟩
        · exact ⟨[], fun h => absurd h hi⟩
      refine ⟨n, c, fun i => (hch i).choose, fun β f x z hb => name_ren hb, fun β e => ⟨hnc, fun h => absurd rfl h, fun _ i hi => ((hch i).choose_spec hi).2.2.1, fun i hi => ((hch i).choose_spec hi).2.2.2, fun _ => ⟨cur, te, fz, hcur, fun i hi j v hj => ?_, (by simp)⟩⟩, by omega, hcm, hnc, fun i hi => ((hch i).choose_spec hi).1⟩
      obtain ⟨_, h2, _, h4⟩ := (hch i).choose_spec hi
      have hjl : j < ks.length := by rw [← h4]; exact (List.getElem?_eq_some_iff.1 hj).1
      have := congrArg (fun l => l[j]?) (h2 β)
      simp only [List.getElem?_map, hj, Option.map_some, List.getElem?_take, if_pos hjl, List.getElem?_drop, Array.getElem?_toList] at this
      rw [this]
      show cur[off + (i * ks.length + j)]? = cur[off + i * ks.length + j]?
      congr 1
      omega

theorem row_view {W : World} {ks : List K} {v : Value} (hf : ks.all K.flatB = true) (h : VK W (.sl ks) v) (hspot : ∀ a n c, v = .slice (some a) n c → a.spot = none) :
    ∃ (A : Nat × Nat × Fl) (n c : Nat) (g : Nat → List C), (∀ β f x, β f x = A → (C.sl f x ks.length 0 n c).ren β = v) ∧ (∀ β e, (Ck.row false false e ks.length n c g).holds β W A) ∧ n ≤ maxLen ∧ c ≤ maxLen ∧ n ≤ c ∧ ∀ i, i < n → FT ks (g i) := by
  obtain ⟨n, c, g, h1, h2⟩ := sl_view hf h
  exact ⟨nameOf v, n, c, g, fun β f x hb => h1 β f x _ hb, h2⟩

/-! ### Elements that bear slices -/
inductive DC where
  | f (c : C)
  | n (z n c : Nat)
def DC.mk (F : Nat → Nat) (i j : Nat) : DC → C
  | .f c => c
  | .n z m c => .sl (F j) i z 0 m c
def layD (F : Nat → Nat) (i : Nat) : Nat → List DC → List C
  | _, [] => []
  | j, d :: D => d.mk F i j :: layD F i (j + 1) D
def FD (W : World) (B : Nat → Nat × Nat × Fl) : Nat → List K → List DC → Prop
  | _, [], [] => True
  | j, .sl kf :: ks, .n z n c :: D => (z = kf.length ∧ n ≤ c ∧ n ≤ maxLen ∧ ∃ R : Nat → List C, (∀ β e, (Ck.row false false e kf.length n c R).holds β W (B j)) ∧ ∀ i, i < n → FT kf (R i)) ∧ FD W B (j + 1) ks D
  | j, k :: ks, .f c :: D => FT [k] [c] ∧ FD W B (j + 1) ks D
  | _, _, _ => False
def K.flat1B : K → Bool
  | .sl ks => ks.all K.flatB
  | _ => true
theorem layD_length (F : Nat → Nat) (i : Nat) : ∀ (j : Nat) (D : List DC), (layD F i j D).length = D.length
  | _, [] => rfl
  | j, d :: D => by simp [layD, layD_length F i (j + 1) D]

theorem FD_cong {W : World} : ∀ (m : Nat) {ks : List K} {D : List DC} {B B' : Nat → Nat × Nat × Fl}, (∀ y, m ≤ y → B y = B' y) → FD W B m ks D → FD W B' m ks D := by
  intro m ks
  induction ks generalizing m with
  | nil => intro D B B' _ h; cases D <;> exact h
  | cons k ks ih =>
    intro D B B' hB h
    have hB' : ∀ y, m + 1 ≤ y → B y = B' y := fun y hy => hB y (by omega)
    cases D with
    | nil => cases k <;> exact h.elim
    | cons d D =>
      cases d with
      | f c =>
        cases k <;> first | exact ⟨h.1, ih _ hB' h.2⟩ | exact h.1.elim
      | n z n c =>
        cases k <;> first | exact h.elim | skip
        obtain ⟨⟨e1, e2, e3, R, e4, e5⟩, e6⟩ := h
        exact ⟨⟨e1, e2, e3, R, fun β e => by rw [← hB m (Nat.le_refl _)]; exact e4 β e, e5⟩, ih _ hB' e6⟩

theorem cells_view {W : World} : ∀ (j : Nat) {ks : List K} {vs : List Value}, ks.all K.flat1B = true → VKs W ks vs →
    ∃ (B : Nat → Nat × Nat × Fl) (D : List DC), FD W B j ks D ∧ (∀ (β : Nm) (F : Nat → Nat) (i : Nat), (∀ y, j ≤ y → y < j + ks.length → β (F y) i = B y) → (layD F i j D).map (C.ren β) = vs) ∧ D.length = ks.length
  | j, [], [], _, _ => ⟨fun _ => (0, 0, .nil), [], trivial, fun _ _ _ _ => rfl, rfl⟩
  | _, [], _ :: _, _, h => by simp [VKs] at h
  | _, _ :: _, [], _, h => by simp [VKs] at h
  | j, k :: ks, v :: vs, hf, h => by
    simp only [VKs] at h
    simp only [List.all_cons, Bool.and_eq_true] at hf
    obtain ⟨B, D, h1, h2, h3⟩ := cells_view (j + 1) hf.2 h.2
    have flat : ∀ c : C, (∀ β, c.ren β = v) → FT [k] [c] → (∀ kf, k ≠ .sl kf) → ∃ (B : Nat → Nat × Nat × Fl) (D : List DC), FD W B j (k :: ks) D ∧ (∀ (β : Nm) (F : Nat → Nat) (i : Nat), (∀ y, j ≤ y → y < j + (k :: ks).length → β (F y) i = B y) → (layD F i j D).map (C.ren β) = v :: vs) ∧ D.length = (k :: ks).length := by
      intro c hc hft hk
      refine ⟨B, .f c :: D, ?_, fun β F i hb => ?_, by simp [h3]⟩
      · cases k <;> first | exact ⟨hft, h1⟩ | exact absurd rfl (hk _)
      · rw [show (layD F i j (DC.f c :: D)).map (C.ren β) = c.ren β :: (layD F i (j + 1) D).map (C.ren β) from rfl, hc β, h2 β F i (fun y hy hy2 => hb y (by omega) (by simp only [List.length_cons]; omega))]
    cases k with
    | i k =>
      have h0 := h.1
      simp only [VK] at h0
      obtain ⟨n, rfl, hb⟩ := h0
      exact flat (.i k n) (fun _ => rfl) ⟨⟨n, rfl, hb⟩, trivial⟩ (by simp)
    | b =>
      have h0 := h.1
      simp only [VK] at h0
      obtain ⟨x, rfl⟩ := h0
      exact flat (.b x) (fun _ => rfl) ⟨⟨x, rfl⟩, trivial⟩ (by simp)
    | s =>
      have h0 := h.1
      simp only [VK] at h0
      obtain ⟨x, rfl, hb⟩ := h0
      exact flat (.s x) (fun _ => rfl) ⟨⟨x, rfl, hb⟩, trivial⟩ (by simp)
    | sl kf =>
      obtain ⟨n, c, R, r1, r2, r3, _, r4, r5⟩ := sl_view (ks := kf) hf.1 h.1
      refine ⟨fun y => if y = j then nameOf v else B y, .n kf.length n c :: D, ⟨⟨rfl, r4, r3, R, fun β e => by simpa using r2 β e, r5⟩, FD_cong (j + 1) (fun y hy => (if_neg (by omega)).symm) h1⟩, fun β F i hb => ?_, by simp [h3]⟩
      rw [show (layD F i j (DC.n kf.length n c :: D)).map (C.ren β) = (C.sl (F j) i kf.length 0 n c).ren β :: (layD F i (j + 1) D).map (C.ren β) from rfl]
      have hj := hb j (Nat.le_refl _) (by simp)
      simp only at hj
      rw [r1 β (F j) i _ hj, h2 β F i (fun y hy hy2 => by
        have := hb y (by omega) (by simp only [List.length_cons]; omega)
        simpa only [if_neg (show ¬ y = j by omega)] using this)]

/-- A slice whose elements bear slices of flat elements. -/
theorem nest_view {W : World} {ks : List K} {v : Value} (hf : ks.all K.flat1B = true) (h : VK W (.sl ks) v) :
    ∃ (n c : Nat) (D : Nat → List DC) (B : Nat → Nat → Nat × Nat × Fl), (∀ β f x z, β f x = nameOf v → (C.sl f x z 0 n c).ren β = v) ∧
      (∀ β (F : Nat → Nat) e, (∀ i y, i < n → y < ks.length → β (F y) i = B i y) → (Ck.row false true e ks.length n c fun i => layD F i 0 (D i)).holds β W (nameOf v)) ∧ n ≤ maxLen ∧ c ≤ maxLen ∧ n ≤ c ∧ ∀ i, i < n → FD W (B i) 0 ks (D i) := by
  simp only [VK] at h
  rcases h with rfl | ⟨a, n, c, rfl, hnc, hcm, hh⟩
  · exact ⟨0, 0, fun _ => [], fun _ _ => (0, 0, .nil), fun β f x z hb => name_ren hb, fun β F e _ => ⟨by omega, fun _ => rfl, fun h => by simp at h, fun i hi => by omega, fun h => absurd rfl h⟩, by unfold maxLen; omega, by unfold maxLen; omega, by omega, fun i hi => by omega⟩
  · rcases hh with rfl | ⟨hs, hblk, cur, te, fz, hcur, hrow⟩
    · obtain rfl : n = 0 := by omega
      exact ⟨0, 0, fun _ => [], fun _ _ => (0, 0, .nil), fun β f x z hb => name_ren hb, fun β F e _ => ⟨by omega, fun _ => rfl, fun h => by simp at h, fun i hi => by omega, fun h => absurd rfl h⟩, by omega, hcm, by omega, fun i hi => by omega⟩
    · obtain ⟨b, off, spot⟩ := a
      simp only at hs hblk hcur hrow
      subst hs
      have hch : ∀ i, ∃ (B : Nat → Nat × Nat × Fl) (D : List DC), i < n → FD W B 0 ks D ∧ (∀ (β : Nm) (F : Nat → Nat) (i' : Nat), (∀ y, 0 ≤ y → y < 0 + ks.length → β (F y) i' = B y) → (layD F i' 0 D).map (C.ren β) = ((cur.toList.drop (off + i * ks.length)).take ks.length)) ∧ D.length = ks.length := by
        intro i
        by_cases hi : i < n
        · obtain ⟨B, D, h⟩ := cells_view 0 hf (hrow i hi)
          exact ⟨B, D, fun _ => h⟩
        · exact ⟨fun _ => (0, 0, .nil), [], fun h => absurd h hi⟩
      refine ⟨n, c, fun i => (hch i).choose_spec.choose, fun i => (hch i).choose, fun β f x z hb => name_ren hb, fun β F e hb => ⟨hnc, fun h => absurd rfl h, fun h => by simp at h, fun i hi => ?_, fun _ => ⟨cur, te, fz, hcur, fun i hi j v hj => ?_, (by simp)⟩⟩, by omega, hcm, hnc, fun i hi => ((hch i).choose_spec.choose_spec hi).1⟩
      · rw [layD_length]; exact ((hch i).choose_spec.choose_spec hi).2.2
      · obtain ⟨_, h2, h4⟩ := (hch i).choose_spec.choose_spec hi
        have hjl : j < ks.length := by rw [← h4, ← layD_length F i 0]; exact (List.getElem?_eq_some_iff.1 hj).1
        have := congrArg (fun l => l[j]?) (h2 β F i (fun y _ hy => hb i y hi (by omega)))
        simp only [List.getElem?_map, hj, Option.map_some, List.getElem?_take, if_pos hjl, List.getElem?_drop, Array.getElem?_toList] at this
        rw [this]
        show cur[off + (i * ks.length + j)]? = cur[off + i * ks.length + j]?
        congr 1
        omega

theorem FD_nil {W : World} {B : Nat → Nat × Nat × Fl} {j : Nat} {D : List DC} (h : FD W B j [] D) : D = [] := by cases D <;> first | rfl | exact h.elim
theorem FD_i {W : World} {B : Nat → Nat × Nat × Fl} {j : Nat} {k : IntKind} {ks : List K} {D : List DC} (h : FD W B j (.i k :: ks) D) : ∃ n r, D = .f (.i k n) :: r ∧ (k.min ≤ n ∧ n ≤ k.max) ∧ FD W B (j + 1) ks r := by
  cases D with
  | nil => exact h.elim
  | cons d r => cases d with
    | f c =>
      obtain ⟨⟨⟨n, rfl, hb⟩, _⟩, h2⟩ := h
      exact ⟨n, r, rfl, hb, h2⟩
    | n z n c => exact h.elim
theorem FD_b {W : World} {B : Nat → Nat × Nat × Fl} {j : Nat} {ks : List K} {D : List DC} (h : FD W B j (.b :: ks) D) : ∃ x r, D = .f (.b x) :: r ∧ FD W B (j + 1) ks r := by
  cases D with
  | nil => exact h.elim
  | cons d r => cases d with
    | f c =>
      obtain ⟨⟨⟨n, rfl⟩, _⟩, h2⟩ := h
      exact ⟨n, r, rfl, h2⟩
    | n z n c => exact h.elim
theorem FD_s {W : World} {B : Nat → Nat × Nat × Fl} {j : Nat} {ks : List K} {D : List DC} (h : FD W B j (.s :: ks) D) : ∃ (x : ByteArray) (r : List DC), D = .f (.s x) :: r ∧ x.size ≤ 140737488351232 ∧ FD W B (j + 1) ks r := by
  cases D with
  | nil => exact h.elim
  | cons d r => cases d with
    | f c =>
      obtain ⟨⟨⟨n, rfl, hb⟩, _⟩, h2⟩ := h
      exact ⟨n, r, rfl, hb, h2⟩
    | n z n c => exact h.elim
theorem FD_n {W : World} {B : Nat → Nat × Nat × Fl} {j : Nat} {kf ks : List K} {D : List DC} (h : FD W B j (.sl kf :: ks) D) :
    ∃ (n c : Nat) (R : Nat → List C) (r : List DC), D = .n kf.length n c :: r ∧ n ≤ c ∧ n ≤ maxLen ∧ (∀ β e, (Ck.row false false e kf.length n c R).holds β W (B j)) ∧ (∀ i, i < n → FT kf (R i)) ∧ FD W B (j + 1) ks r := by
  cases D with
  | nil => exact h.elim
  | cons d r => cases d with
    | f c =>
      exact h.1.elim
    | n z n c =>
      obtain ⟨⟨rfl, e2, e3, R, e4, e5⟩, e6⟩ := h
      exact ⟨n, c, R, r, rfl, e2, e3, e4, e5, e6⟩
/-- Records behind indices. -/
theorem list_ix {α : Type} [Inhabited α] {Pr : Nat → α → Prop} : ∀ {n : Nat}, (∀ i, i < n → ∃ x : α, Pr i x) → ∃ l : List α, l.length = n ∧ ∀ i, i < n → Pr i (l.getD i default)
  | 0, _ => ⟨[], rfl, fun i hi => by omega⟩
  | n + 1, h => by
    obtain ⟨l, h1, h2⟩ := list_ix (n := n) (fun i hi => h i (by omega))
    obtain ⟨x, hx⟩ := h n (by omega)
    refine ⟨l ++ [x], by simp [h1], fun i hi => ?_⟩
    by_cases hin : i < n
    · simp only [List.getD, List.getElem?_append_left (h1 ▸ hin)]
      exact h2 i hin
    · have : i = n := by omega
      subst this
      simpa [List.getD, ← h1] using hx

theorem FT_nil {l : List C} (h : FT [] l) : l = [] := by cases l <;> first | rfl | exact h.elim
theorem FT_i {k : IntKind} {ks : List K} {l : List C} (h : FT (.i k :: ks) l) : ∃ n r, l = .i k n :: r ∧ (k.min ≤ n ∧ n ≤ k.max) ∧ FT ks r := by
  cases l with
  | nil => exact h.elim
  | cons c r => obtain ⟨⟨n, rfl, hb⟩, h2⟩ := h; exact ⟨n, r, rfl, hb, h2⟩
theorem FT_b {ks : List K} {l : List C} (h : FT (.b :: ks) l) : ∃ x r, l = .b x :: r ∧ FT ks r := by
  cases l with
  | nil => exact h.elim
  | cons c r => obtain ⟨⟨n, rfl⟩, h2⟩ := h; exact ⟨n, r, rfl, h2⟩
theorem FT_s {ks : List K} {l : List C} (h : FT (.s :: ks) l) : ∃ (x : ByteArray) (r : List C), l = .s x :: r ∧ x.size ≤ 140737488351232 ∧ FT ks r := by
  cases l with
  | nil => exact h.elim
  | cons c r => obtain ⟨⟨n, rfl, hb⟩, h2⟩ := h; exact ⟨n, r, rfl, hb, h2⟩

theorem list_of {α : Type} [Inhabited α] (enc : α → List C) {Pr : α → Prop} {g : Nat → List C} : ∀ {n : Nat}, (∀ i, i < n → ∃ x : α, g i = enc x ∧ Pr x) → ∃ l : List α, l.length = n ∧ (∀ i, i < n → g i = enc (l.getD i default)) ∧ ∀ x ∈ l, Pr x
  | 0, _ => ⟨[], rfl, fun i hi => by omega, by simp⟩
  | n + 1, h => by
    obtain ⟨l, h1, h2, h3⟩ := list_of enc (n := n) (fun i hi => h i (by omega))
    obtain ⟨x, hx, hp⟩ := h n (by omega)
    refine ⟨l ++ [x], by simp [h1], fun i hi => ?_, fun y hy => ?_⟩
    · by_cases hin : i < n
      · rw [h2 i hin]
        simp only [List.getD, List.getElem?_append_left (h1 ▸ hin)]
      · have : i = n := by omega
        subst this
        rw [hx]
        simp [List.getD, ← h1]
    · rcases List.mem_append.1 hy with hy | hy
      · exact h3 y hy
      · rw [List.mem_singleton.1 hy]; exact hp

theorem holds_row_congr {β : Nm} {W : World} {A : Nat × Nat × Fl} {e z n c : Nat} {g g' : Nat → List C} (h : (Ck.row false false e z n c g).holds β W A) (hg : ∀ i, i < n → g i = g' i) : (Ck.row false false e z n c g').holds β W A := by
  obtain ⟨h1, h2, h3, h4, h5⟩ := h
  refine ⟨h1, h2, fun hk i hi v hv => h3 hk i hi v (by rw [hg i hi]; exact hv), fun i hi => by rw [← hg i hi]; exact h4 i hi, fun hc => ?_⟩
  obtain ⟨cur, te, fz, hb, hcc, ho⟩ := h5 hc
  exact ⟨cur, te, fz, hb, fun i hi j v hj => hcc i hi j v (by rw [hg i hi]; exact hj), fun h => by cases h⟩

theorem holds_rowK_congr {k : Bool} {β : Nm} {W : World} {A : Nat × Nat × Fl} {e z n c : Nat} {g g' : Nat → List C} (h : (Ck.row false k e z n c g).holds β W A) (hg : ∀ i, i < n → g i = g' i) : (Ck.row false k e z n c g').holds β W A := by
  obtain ⟨h1, h2, h3, h4, h5⟩ := h
  refine ⟨h1, h2, fun hk i hi v hv => h3 hk i hi v (by rw [hg i hi]; exact hv), fun i hi => by rw [← hg i hi]; exact h4 i hi, fun hc => ?_⟩
  obtain ⟨cur, te, fz, hb, hcc, ho⟩ := h5 hc
  exact ⟨cur, te, fz, hb, fun i hi j v hj => hcc i hi j v (by rw [hg i hi]; exact hj), fun h => by cases h⟩

def nmL (L : List (Nat × Nat × Fl)) : Nm := fun f _ => L.getD f (0, 0, .nil)

/-- A heap that is only read. -/
theorem fits_read {β : Nm} {W : World} {h : List Fam} (hh : ∀ f x, (get h f x).holds β W (β f x)) (hno : ∀ f x, (get h f x).owned = false) : Fits β h W :=
  ⟨hh, fun f x g y _ ho => by rw [hno] at ho; cases ho⟩

theorem get_ones {β : Nm} {W : World} : ∀ {h : List Ck} , (∀ (f : Nat) ck, h[f]? = some ck → ck.holds β W (β f 0)) → ∀ f x, (get (h.map Fam.one) f x).holds β W (β f x) := by
  intro h hh f x
  unfold get
  rw [List.getElem?_map]
  cases hf : h[f]? with
  | none => trivial
  | some ck =>
    cases x with
    | zero => exact hh f ck hf
    | succ x => trivial
theorem get_ones_own {h : List Ck} (hh : ∀ ck ∈ h, ck.owned = false) (f x : Nat) : (get (h.map Fam.one) f x).owned = false := by
  unfold get
  rw [List.getElem?_map]
  cases hf : h[f]? with
  | none => rfl
  | some ck =>
    cases x with
    | zero => exact hh ck (List.mem_of_getElem? hf)
    | succ x => rfl

/-- Names where the elements of family 0 bear slices of family 1 at position p. -/
def nmQ (A : Nat × Nat × Fl) (B : Nat → Nat → Nat × Nat × Fl) (p : Nat) : Nm := fun f x => if f = 0 then A else if f = 1 then B x p else B x (f - 100)
def Fq (p y : Nat) : Nat := if y = p then 1 else y + 100
theorem nmQ_at (A : Nat × Nat × Fl) (B : Nat → Nat → Nat × Nat × Fl) (p i y : Nat) : nmQ A B p (Fq p y) i = B i y := by
  unfold nmQ Fq
  by_cases h : y = p
  · rw [if_pos h, if_neg (by omega), if_pos rfl, h]
  · rw [if_neg h, if_neg (by omega), if_neg (by omega), Nat.add_sub_cancel]
theorem fits_nest {β : Nm} {W : World} {ck : Ck} {g : Nat → Ck} (h0 : ck.holds β W (β 0 0)) (o0 : ck.owned = false) (h1 : ∀ x, (g x).holds β W (β 1 x)) (o1 : ∀ x, (g x).owned = false) : Fits β [.one ck, .many g] W ∧ ∀ f x, (get [.one ck, .many g] f x).owned = false := by
  have hno : ∀ f x, (get [.one ck, .many g] f x).owned = false := fun f x => by
    match f, x with
    | 0, 0 => exact o0
    | 0, x + 1 => rfl
    | 1, x => exact o1 x
    | f + 2, x => simp [get, Ck.owned]
  exact ⟨fits_read (fun f x => by
    match f, x with
    | 0, 0 => exact h0
    | 0, x + 1 => trivial
    | 1, x => exact h1 x
    | f + 2, x => simp [get, Ck.holds]) hno, hno⟩

theorem fits_no (β : Nm) (W : World) : Fits β [.one .no] W ∧ ∀ f x, (get [.one .no] f x).owned = false := by
  have h : ∀ f x, get [.one .no] f x = .no := fun f x => by
    match f, x with
    | 0, 0 => rfl
    | 0, x + 1 => rfl
    | f + 1, x => simp [get]
  have hno : ∀ f x, (get [.one .no] f x).owned = false := fun f x => by rw [h]; rfl
  exact ⟨fits_read (fun f x => by rw [h]; trivial) hno, hno⟩

/-- What a claim wants of a law's contract. -/
theorem glue {P : Program} {F : Nat} {args : List T} {h : List Fam} {β : Nm} {W : World} (hc : Ctr P F args h (fun v _ => v = .c .tt)) (hf : Fits β h W) (hno : ∀ f x, (get h f x).owned = false) :
    Calls P F (args.map (T.ren β)).toArray W fun e W' => e = .returned (.bool true) ∧ Below W.heap.size W W' := by
  refine (hc.run β W hf).mono fun e W' hh => ?_
  obtain ⟨v, h', β', rfl, rfl, _, hl⟩ := hh
  exact ⟨rfl, hl.os, hl.tape, hl.out, hl.hs, fun k hk => hl.fr k hk (fun f x ho => by rw [hno] at ho; cases ho)⟩

/-- A slice among the arguments: where it lies has no spot. -/
theorem ok_spot {P : Program} {W : World} {r : Reach} {b t e : Nat} {v : Value} (hu : P.underlying t = some (.slice e)) (h : Value.okWide P W r b t v) : (∃ a n c, v = .slice a n c) ∧ ∀ a n c, v = .slice (some a) n c → a.spot = none := by
  unfold Value.okWide at h
  rw [hu] at h
  simp only at h
  unfold Cell.okWide at h
  rw [hu] at h
  have h : Cell.ok P W r b t v := by cases v <;> first | exact h | trivial
  unfold Cell.ok at h
  rw [hu] at h
  cases v with
  | slice a n c =>
    refine ⟨⟨a, n, c, rfl⟩, fun a' n' c' he => ?_⟩
    cases he
    exact h.2.2.2.1
  | _ => exact h.elim
theorem ok_agg {P : Program} {W : World} {r : Reach} {b t : Nat} {v : Value} {fs} (hu : P.underlying t = some (.struct fs)) (h : Value.okWide P W r b t v) : ∃ cs, v = .agg cs := by
  unfold Value.okWide at h
  rw [hu] at h
  obtain ⟨cs, h, _⟩ := h
  exact ⟨cs, h⟩
theorem ok_aggA {P : Program} {W : World} {r : Reach} {b t : Nat} {v : Value} {n e} (hu : P.underlying t = some (.array n e)) (h : Value.okWide P W r b t v) : ∃ cs, v = .agg cs := by
  unfold Value.okWide at h
  rw [hu] at h
  obtain ⟨cs, h, _⟩ := h
  exact ⟨cs, h⟩

section
variable {H : Type} {enc : TypeId × Value → H} {P : Program} {W : World}
/-- An argument, seen. -/
theorem arg_view {n : Nat} {t : TypeId} {ks : List K} {v : Value} {d : DataW H} {p : List MemPlace} {ts : List TypeId} {ds : List (DataW H)} {j : Nat} (hk : kindsOf P n t = some ks) (h : DataW.Trod enc P W 0 (fun _ => true) true t v d p) (hlt : ∀ x ∈ p, x.block < W.heap.size)
    (hsz : (DataW.weightsEach P ts ds).all (· ≤ reachBytes) = true) (hjt : ts[j]? = some t) (hjd : ds[j]? = some d) : VKs W ks v.cells.toList := by
  obtain ⟨fuel, h⟩ := h
  exact kindsOf_trod n fuel hk h hlt (fun q hq => by simpa using List.all_eq_true.1 hsz q (DataW.weights_mem_each hjt hjd q hq))
end
end Go.X
