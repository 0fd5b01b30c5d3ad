/- Part 4 of the texts that a walk of this program rests on: an abstract machine, its soundness, contracts of functions. No statement of the seat is proved in this file. -/
import Derived.Test.YtgaodeffbgppmaaU3
namespace Go.Proofs.Ytgaodeffbgppmaa
open Go.X
set_option linter.unusedSimpArgs false
set_option linter.unusedVariables false
def pget (M : List (Nat × Int × List UInt8)) (ix : Int) : Option (List UInt8) := (M.find? fun e => e.2.1 == ix).map fun e => e.2.2
def outS (ct : Int) (M : List (Nat × Int × List UInt8)) (n : Nat) : List UInt8 := (List.range n).flatMap fun i => (pget M (i : Nat)).getD []
def insT (t : Tx) (f : Fg) : Tx := ⟨t.id, t.fr, t.i, t.ct, t.M ++ [(t.ck, f.ix, f.d)], t.ck + 1⟩
def newT (N : Nat) (fr : Int) (f : Fg) : Tx := ⟨N, fr, f.id, f.ct, [(0, f.ix, f.d)], 1⟩
abbrev AR := List Tx × List (Int × Int) × List UInt8 × Bool × Nat
def cutL (L : List Tx) (k : Nat) : List Tx := L.take k ++ L.drop (k + 1)
def addA (mo : Int) (N : Nat) (L : List Tx) (dn : List (Int × Int)) (fr : Int) (f : Fg) : AR :=
  if ¬ ((0 ≤ fr ∧ fr ≤ 7) ∧ okF f) then (L, dn, [], false, 4)
  else match fnd L (fr, f.id) with
  | some k =>
    if (L.getD k default).ct ≠ f.ct then (L, dn, [], false, 2)
    else match pget (L.getD k default).M f.ix with
    | some d => if d ≠ f.d then (L, dn, [], false, 2) else (L, dn, [], false, 0)
    | none =>
      if ((L.getD k default).M.length : Int) + 1 < f.ct then (L.set k (insT (L.getD k default) f), dn, [], false, 0)
      else (cutL L k, remD dn (fr, f.id), outS f.ct (insT (L.getD k default) f).M f.ct.toNat, true, 0)
  | none =>
    if (fr, f.id) ∈ dn then (L, dn, [], false, 0)
    else if 1 < f.ct then ((if mo < L.length + 1 then L.drop 1 else L) ++ [newT N fr f], dn, [], false, 0)
    else (L, remD dn (fr, f.id), f.d, true, 0)
theorem addA_some {mo : Int} {N : Nat} {L : List Tx} {dn : List (Int × Int)} {fr : Int} {f : Fg} {k : Nat} (h : (0 ≤ fr ∧ fr ≤ 7) ∧ okF f) (hf : fnd L (fr, f.id) = some k) : addA mo N L dn fr f =
    if (L.getD k default).ct ≠ f.ct then (L, dn, [], false, 2)
    else match pget (L.getD k default).M f.ix with
    | some d => if d ≠ f.d then (L, dn, [], false, 2) else (L, dn, [], false, 0)
    | none =>
      if ((L.getD k default).M.length : Int) + 1 < f.ct then (L.set k (insT (L.getD k default) f), dn, [], false, 0)
      else (cutL L k, remD dn (fr, f.id), outS f.ct (insT (L.getD k default) f).M f.ct.toNat, true, 0) := by
  unfold addA
  rw [if_neg (fun h' => h' h), hf]
theorem addA_none {mo : Int} {N : Nat} {L : List Tx} {dn : List (Int × Int)} {fr : Int} {f : Fg} (h : (0 ≤ fr ∧ fr ≤ 7) ∧ okF f) (hf : fnd L (fr, f.id) = none) : addA mo N L dn fr f =
    if (fr, f.id) ∈ dn then (L, dn, [], false, 0)
    else if 1 < f.ct then ((if mo < L.length + 1 then L.drop 1 else L) ++ [newT N fr f], dn, [], false, 0)
    else (L, remD dn (fr, f.id), f.d, true, 0) := by
  unfold addA
  rw [if_neg (fun h' => h' h), hf]
theorem fnd_lt {L : List Tx} {p : Int × Int} {k : Nat} (h : fnd L p = some k) : k < L.length := by
  unfold fnd at h
  rw [List.findIdx?_eq_some_iff_getElem] at h
  exact h.1
theorem pget_at {M : List (Nat × Int × List UInt8)} {ix : Int} {i : Nat} (hd : ∀ a b, a < b → b < M.length → (M.getD a default).2.1 ≠ (M.getD b default).2.1) (hi : i < M.length) (hk : (M.getD i default).2.1 = ix) : pget M ix = some (M.getD i default).2.2 := by
  unfold pget
  have h : M.find? (fun e => e.2.1 == ix) = some (M.getD i default) := by
    rw [List.find?_eq_some_iff_getElem]
    refine ⟨by simpa using hk, i, hi, (getD_at hi).symm, fun j hj => ?_⟩
    have := hd j i hj hi
    rw [getD_at (by omega), hk] at this
    simpa using this
  rw [h]
  rfl
theorem pget_no {M : List (Nat × Int × List UInt8)} {ix : Int} (h : ∀ i, i < M.length → (M.getD i default).2.1 ≠ ix) : pget M ix = none := by
  unfold pget
  rw [List.find?_eq_none.2 ?_]
  · rfl
  · intro e he
    obtain ⟨i, hi, rfl⟩ := List.mem_iff_getElem.1 he
    have := h i hi
    rw [getD_at hi] at this
    simpa using this
theorem find_nd : ∀ {L : List Tx}, (idsOf L).Nodup → ∀ i, i < L.length → L.find? (fun t => t.id == (L.getD i default).id) = some (L.getD i default)
  | [], _, i, h => by simp at h
  | a :: l, hn, 0, _ => by simp [List.getD]
  | a :: l, hn, i + 1, h => by
    have hn' := List.nodup_cons.1 hn
    have hi : i < l.length := by simpa using h
    have e : (a :: l).getD (i + 1) default = l.getD i default := rfl
    rw [e, List.find?_cons, find_nd hn'.2 i hi]
    have : (a.id == (l.getD i default).id) = false := by
      rw [beq_eq_false_iff_ne]
      intro e
      apply hn'.1
      rw [e, getD_at hi]
      exact List.mem_map.2 ⟨_, List.getElem_mem _, rfl⟩
    rw [this]
theorem find_set : ∀ {L : List Tx} {k : Nat} {t : Tx}, (idsOf L).Nodup → k < L.length → t.id = (L.getD k default).id → ∀ x, (L.set k t).find? (fun t => t.id == x) = if x = t.id then some t else L.find? (fun t => t.id == x)
  | [], k, t, _, h, _, _ => by simp at h
  | a :: l, 0, t, hn, _, ht, x => by
    have ht : t.id = a.id := ht
    rw [List.set_cons_zero, List.find?_cons, List.find?_cons, ← ht]
    by_cases hx : x = t.id
    · subst hx; simp
    · have : (t.id == x) = false := by rw [beq_eq_false_iff_ne]; exact fun e => hx e.symm
      rw [this, if_neg hx]
  | a :: l, k + 1, t, hn, h, ht, x => by
    have hn' := List.nodup_cons.1 hn
    have hk : k < l.length := by simpa using h
    have ht : t.id = (l.getD k default).id := ht
    rw [List.set_cons_succ, List.find?_cons, List.find?_cons, find_set hn'.2 hk ht x]
    by_cases hx : a.id == x
    · rw [hx]
      have : x ≠ t.id := by
        intro e
        apply hn'.1
        rw [show a.id = t.id from (by simpa using hx : a.id = x).trans e, ht, getD_at hk]
        exact List.mem_map.2 ⟨_, List.getElem_mem _, rfl⟩
      simp only [if_neg this]
    · rw [Bool.not_eq_true] at hx
      rw [hx]
theorem find_cut : ∀ {L : List Tx} {k : Nat}, (idsOf L).Nodup → k < L.length → ∀ x, (L.take k ++ L.drop (k + 1)).find? (fun t => t.id == x) = if x = (L.getD k default).id then none else L.find? (fun t => t.id == x)
  | [], k, _, h, _ => by simp at h
  | a :: l, 0, hn, _, x => by
    have hn' := List.nodup_cons.1 hn
    show l.find? _ = if x = a.id then none else (a :: l).find? _
    rw [List.find?_cons]
    by_cases hx : x = a.id
    · subst hx
      rw [if_pos rfl, List.find?_eq_none]
      intro t ht e
      apply hn'.1
      rw [← (by simpa using e : t.id = a.id)]
      exact List.mem_map.2 ⟨_, ht, rfl⟩
    · rw [if_neg hx, show (a.id == x) = false by rw [beq_eq_false_iff_ne]; exact fun e => hx e.symm]
  | a :: l, k + 1, hn, h, x => by
    have hn' := List.nodup_cons.1 hn
    have hk : k < l.length := by simpa using h
    show (a :: (l.take k ++ l.drop (k + 1))).find? _ = if x = (l.getD k default).id then none else (a :: l).find? _
    rw [List.find?_cons, List.find?_cons, find_cut hn'.2 hk x]
    by_cases hx : a.id == x
    · rw [hx]
      have : x ≠ (l.getD k default).id := by
        intro e
        apply hn'.1
        rw [show a.id = _ from (by simpa using hx : a.id = x).trans e, getD_at hk]
        exact List.mem_map.2 ⟨_, List.getElem_mem _, rfl⟩
      simp only [if_neg this]
    · rw [Bool.not_eq_true] at hx
      rw [hx]
theorem txG_set {fm y : Nat} {L : List Tx} {k : Nat} {f : Fg} (hn : (idsOf L).Nodup) (hk : k < L.length) (x : Nat) : txG fm y (L.set k (insT (L.getD k default) f)) x = txG fm y L x := by
  unfold txG
  rw [find_set (t := insT (L.getD k default) f) hn hk rfl x]
  by_cases hx : x = (insT (L.getD k default) f).id
  · rw [if_pos hx, hx, show (insT (L.getD k default) f).id = (L.getD k default).id from rfl, find_nd hn k hk]
    rfl
  · rw [if_neg hx]
theorem paO_set {L : List Tx} {k : Nat} {f : Fg} (hn : (idsOf L).Nodup) (hk : k < L.length) (x : Nat) : paO (L.set k (insT (L.getD k default) f)) x = if x = (L.getD k default).id then paC (insT (L.getD k default) f) else paO L x := by
  unfold paO
  rw [find_set (t := insT (L.getD k default) f) hn hk rfl x]
  by_cases hx : x = (insT (L.getD k default) f).id
  · rw [if_pos hx, if_pos (show x = (L.getD k default).id from hx)]
  · rw [if_neg hx, if_neg (show ¬ x = (L.getD k default).id from hx)]
theorem txG_cut {fm y : Nat} {L : List Tx} {k : Nat} (hn : (idsOf L).Nodup) (hk : k < L.length) (x : Nat) : txG fm y (L.take k ++ L.drop (k + 1)) x = if x = (L.getD k default).id then .no else txG fm y L x := by
  unfold txG
  rw [find_cut hn hk x]
  by_cases hx : x = (L.getD k default).id
  · rw [if_pos hx, if_pos hx]
  · rw [if_neg hx, if_neg hx]
theorem paO_cut {L : List Tx} {k : Nat} (hn : (idsOf L).Nodup) (hk : k < L.length) (x : Nat) : paO (L.take k ++ L.drop (k + 1)) x = if x = (L.getD k default).id then .no else paO L x := by
  unfold paO
  rw [find_cut hn hk x]
  by_cases hx : x = (L.getD k default).id
  · rw [if_pos hx, if_pos hx]
  · rw [if_neg hx, if_neg hx]
theorem idsOf_set {L : List Tx} {k : Nat} {f : Fg} (hk : k < L.length) : idsOf (L.set k (insT (L.getD k default) f)) = idsOf L := by
  unfold idsOf
  rw [List.map_set]
  apply List.ext_getElem?
  intro i
  rw [List.getElem?_set]
  split
  · rename_i h
    subst h
    simp [insT, List.getD, hk]
  · rfl
theorem map_le {N N' : Nat} {σ : List Sg} {t : Tx} (f : Fg) :
    (Ck.map true false (t.ck + 1) (t.M.length + 1) (fun j => if j = t.M.length then (t.ck, Key.i f.ix, E.c (.s (mkS f.d))) else ((t.M.getD j default).1, .i (t.M.getD j default).2.1, .c (.s (mkS (t.M.getD j default).2.2))))).leK N ((paC (insT t f)).rk σ N') True := by
  refine ⟨rfl, rfl, rfl, ?_, ?_, trivial⟩
  · simp [insT]
  · intro i hi
    by_cases h : i = t.M.length
    · subst h
      simp [insT, List.getD]
    · have : i < t.M.length := by simp [insT] at hi; omega
      simp [insT, List.getD, h, List.getElem?_append_left this]
theorem le_tx_set {σ : List Sg} {N N' x : Nat} {L : List Tx} {k : Nat} {f : Fg} (h : key σ N' 8 x = (4, x)) (hn : (idsOf L).Nodup) (hk : k < L.length) : (txG 4 x L x).leK N ((txG 8 x (L.set k (insT (L.getD k default) f)) x).rk σ N') True := by
  rw [txG_set hn hk]
  exact mtO_le h
theorem le_pa_set {σ : List Sg} {N N' x : Nat} {L : List Tx} {k : Nat} {f : Fg} (hn : (idsOf L).Nodup) (hk : k < L.length) :
    (if x = (L.getD k default).id then Ck.map true false ((L.getD k default).ck + 1) ((L.getD k default).M.length + 1) (fun j => if j = (L.getD k default).M.length then ((L.getD k default).ck, Key.i f.ix, E.c (.s (mkS f.d))) else (((L.getD k default).M.getD j default).1, .i ((L.getD k default).M.getD j default).2.1, .c (.s (mkS ((L.getD k default).M.getD j default).2.2))))
     else paO L x).leK N ((paO (L.set k (insT (L.getD k default) f)) x).rk σ N') True := by
  rw [paO_set hn hk]
  by_cases hx : x = (L.getD k default).id
  · rw [if_pos hx, if_pos hx]
    exact map_le f
  · rw [if_neg hx, if_neg hx]
    exact winO_le
theorem outS_succ (ct : Int) (M : List (Nat × Int × List UInt8)) (n : Nat) : outS ct M (n + 1) = outS ct M n ++ (pget M (n : Nat)).getD [] := by
  unfold outS
  rw [List.range_succ, List.flatMap_append]
  simp
theorem pget_le {M : List (Nat × Int × List UInt8)} (h : ∀ e ∈ M, e.2.2.length ≤ 4000) (ix : Int) : ((pget M ix).getD []).length ≤ 4000 := by
  unfold pget
  cases hf : M.find? fun e => e.2.1 == ix with
  | none => simp
  | some e => simpa using h e (List.mem_of_find?_eq_some hf)
theorem outS_le (ct : Int) {M : List (Nat × Int × List UInt8)} (h : ∀ e ∈ M, e.2.2.length ≤ 4000) : ∀ n, (outS ct M n).length ≤ 4000 * n
  | 0 => by simp [outS]
  | n + 1 => by
    rw [outS_succ, List.length_append]
    have := outS_le ct h n
    have := pget_le h (n : Nat)
    omega
theorem key_snoc {M : List (Nat × Int × List UInt8)} {s : Nat} {ix : Int} {d : List UInt8} (h : ∀ i j, i < j → j < M.length → (M.getD i default).2.1 ≠ (M.getD j default).2.1) (hno : ∀ i, i < M.length → (M.getD i default).2.1 ≠ ix) :
    ∀ i j, i < j → j < (M ++ [(s, ix, d)]).length → ((M ++ [(s, ix, d)]).getD i default).2.1 ≠ ((M ++ [(s, ix, d)]).getD j default).2.1 := by
  intro i j hij hj
  rw [List.length_append, List.length_singleton] at hj
  have hi : (M ++ [(s, ix, d)]).getD i default = M.getD i default := by simp [List.getD, List.getElem?_append_left (show i < M.length by omega)]
  rw [hi]
  by_cases h2 : j < M.length
  · rw [show (M ++ [(s, ix, d)]).getD j default = M.getD j default by simp [List.getD, List.getElem?_append_left h2]]
    exact h i j hij h2
  · obtain rfl : j = M.length := by omega
    rw [show (M ++ [(s, ix, d)]).getD M.length default = (s, ix, d) by simp [List.getD]]
    exact hno i hij
theorem cutL_len {L : List Tx} {k : Nat} (h : k < L.length) : (cutL L k).length = k + (L.length - (k + 1)) := by
  unfold cutL; simp only [List.length_append, List.length_take, List.length_drop]; omega
theorem ids_cut {L : List Tx} {k : Nat} : idsOf (cutL L k) = (idsOf L).take k ++ (idsOf L).drop (k + 1) := by
  unfold idsOf cutL; rw [List.map_append, List.map_take, List.map_drop]
theorem le_tx_cut {σ : List Sg} {N N' x : Nat} {L : List Tx} {k : Nat} (h : key σ N' 8 x = (4, x)) (hn : (idsOf L).Nodup) (hk : k < L.length) : (txG 4 x L x).leK N ((txG 8 x (cutL L k) x).rk σ N') True := by
  unfold cutL
  rw [txG_cut hn hk]
  by_cases hx : x = (L.getD k default).id
  · rw [if_pos hx]
    unfold txG
    split <;> trivial
  · rw [if_neg hx]
    exact mtO_le h
theorem le_pa_cut {σ : List Sg} {N N' x : Nat} {L : List Tx} {k : Nat} {f : Fg} (hn : (idsOf L).Nodup) (hk : k < L.length) : (paO (L.set k (insT (L.getD k default) f)) x).leK N ((paO (cutL L k) x).rk σ N') True := by
  unfold cutL
  rw [paO_cut hn hk, paO_set hn hk]
  by_cases hx : x = (L.getD k default).id
  · rw [if_pos hx, if_pos hx]
    trivial
  · rw [if_neg hx, if_neg hx]
    exact winO_le
theorem cut_ids {J ids : List Nat} {k c : Nat} {F : Nat} (hk : k < ids.length) (hc : ids.length ≤ c) (i : Nat) (hi : i < k + (ids.length - (k + 1))) :
    appF k (fun i => [C.p F ((J ++ ids).getD (J.length + i) default) 0]) (if c = k + 1 then J.length else J.length + (k + 1)) (fun i => [C.p F ((J ++ ids).getD i default) 0]) i = rowOf (encId F) (ids.take k ++ ids.drop (k + 1)) i := by
  rw [← cut_row (encId F) ids k hk i hi]
  unfold appF rowOf encId
  have e : ∀ q, (J ++ ids).getD (J.length + q) default = ids.getD q default := by
    intro q
    simp [List.getD, List.getElem?_append_right]
  by_cases h : i < k
  · rw [if_pos h, if_pos h]
    simp only [e]
  · rw [if_neg h, if_neg h]
    split
    · exfalso; omega
    · rw [show J.length + (k + 1) + (i - k) = J.length + ((k + 1) + (i - k)) by omega]
      simp only [e]
theorem txG_ne {fm y : Nat} {M : List Tx} {t : Tx} {x : Nat} (h : x ≠ t.id) : txG fm y (M ++ [t]) x = txG fm y M x := by
  unfold txG
  rw [List.find?_append, List.find?_cons, show (t.id == x) = false by rw [beq_eq_false_iff_ne]; exact fun e => h e.symm]
  simp
theorem paO_ne {M : List Tx} {t : Tx} {x : Nat} (h : x ≠ t.id) : paO (M ++ [t]) x = paO M x := by
  unfold paO
  rw [List.find?_append, List.find?_cons, show (t.id == x) = false by rw [beq_eq_false_iff_ne]; exact fun e => h e.symm]
  simp
theorem txG_new {fm y : Nat} {M : List Tx} {t : Tx} (h : ∀ u ∈ M, u.id ≠ t.id) : txG fm y (M ++ [t]) t.id = txD fm y t := by
  unfold txG
  rw [List.find?_append, List.find?_eq_none.2 (fun u hu => by simpa using h u hu), List.find?_cons, beq_self_eq_true]
  rfl
theorem paO_new {M : List Tx} {t : Tx} (h : ∀ u ∈ M, u.id ≠ t.id) : paO (M ++ [t]) t.id = paC t := by
  unfold paO
  rw [List.find?_append, List.find?_eq_none.2 (fun u hu => by simpa using h u hu), List.find?_cons, beq_self_eq_true]
  rfl
theorem le_tx_new {σ : List Sg} {N1 N' N : Nat} {M : List Tx} {fr : Int} {f : Fg} {q : Ck} {A : Prop} (hM : ∀ u ∈ M, u.id ≠ N) (h : key σ N' 8 N = (7, 0)) (hq : q = .cells true [.i .i64 fr, .i .i64 f.id, .i .i64 f.ct, .mp 7 0]) (hA : A) : q.leK N1 ((txG 8 N (M ++ [newT N fr f]) N).rk σ N') A := by
  rw [show txG 8 N (M ++ [newT N fr f]) N = txD 8 N (newT N fr f) from txG_new (t := newT N fr f) hM, hq]
  simpa [txD, newT, Ck.rk, C.rk, h, Ck.leK, sameB, eqL, C.eqK, sameK, ifB, kNat] using hA
theorem le_pa_new {σ : List Sg} {N1 N' N : Nat} {M : List Tx} {fr : Int} {f : Fg} {g : Nat → Nat × Key × E} {b : Bool} {A : Prop} (hM : ∀ u ∈ M, u.id ≠ N) (hb : b = false) (hg : g 0 = (0, Key.i f.ix, E.c (.s (mkS f.d)))) (hA : A) : (Ck.map true b (0 + 1) (0 + 1) g).leK N1 ((paO (M ++ [newT N fr f]) N).rk σ N') A := by
  rw [show paO (M ++ [newT N fr f]) N = paC (newT N fr f) from paO_new (t := newT N fr f) hM]
  subst hb
  refine ⟨rfl, rfl, rfl, rfl, fun i hi => ?_, hA⟩
  have : i = 0 := by simp [newT] at hi; omega
  subst this
  rw [hg]
  rfl
theorem adopt_ids {σ : List Sg} {N : Nat} {J ids ids' : List Nat} (hk : ∀ x, key σ 0 7 x = (if x = N then 8 else 3, if x = N then 0 else x)) (hN : ∀ x ∈ ids, x ≠ N) (he : ids' = ids ++ [N]) (g : Nat → List C) (hg : g 0 = [.p 8 0 0]) (i : Nat) (hi : i < ids'.length) :
    appF ids.length (fun i => [C.p 3 ((J ++ ids).getD (J.length + i) default) 0]) 0 g i = List.map (C.rk σ 0) (rowOf (encId 7) ids' i) := by
  subst he
  rw [map_rk_id, hk]
  unfold appF
  rw [List.length_append, List.length_singleton] at hi
  by_cases h : i < ids.length
  · rw [if_pos h]
    have e : (ids ++ [N]).getD i default = ids.getD i default := by simp [List.getD, List.getElem?_append_left h]
    have e2 : (J ++ ids).getD (J.length + i) default = ids.getD i default := by simp [List.getD, List.getElem?_append_right]
    have e3 : ids.getD i default ≠ N := hN _ (by rw [getD_at h]; exact List.getElem_mem _)
    simp only [e, e2, if_neg e3]
  · rw [if_neg h]
    obtain rfl : i = ids.length := by omega
    have e : (ids ++ [N]).getD ids.length default = N := by simp [List.getD]
    simp only [e, if_true, Nat.sub_self, hg]
theorem le_pa_drop {σ : List Sg} {N N' x : Nat} {L : List Tx} (hn : (idsOf L).Nodup) (hk : 0 < L.length) : (paO L x).leK N ((paO (L.drop 1) x).rk σ N') True := by
  have h := paO_cut (L := L) (k := 0) hn hk x
  rw [List.take_zero, List.nil_append] at h
  rw [h]
  by_cases hx : x = (L.getD 0 default).id
  · rw [if_pos hx]
    trivial
  · rw [if_neg hx]
    exact winO_le
structure AOk (mo : Int) (N : Nat) (J : List Nat) (L : List Tx) (dn : List (Int × Int)) : Prop where
  mo1 : 1 ≤ mo
  mo2 : mo ≤ 256
  len : (L.length : Int) ≤ mo
  dn : dn.length ≤ 1000000
  nd : (idsOf L).Nodup
  idN : ∀ t ∈ L, t.id < N
  jN : ∀ j ∈ J, j < N
  jl : J.length ≤ 1
  ct : ∀ t ∈ L, 1 ≤ t.ct ∧ t.ct ≤ 64
  mlen : ∀ t ∈ L, (t.M.length : Int) < t.ct
  dat : ∀ t ∈ L, ∀ e ∈ t.M, e.2.2.length ≤ 4000
  ix : ∀ t ∈ L, ∀ e ∈ t.M, 0 ≤ e.2.1 ∧ e.2.1 < t.ct
  key : ∀ t ∈ L, ∀ i j, i < j → j < t.M.length → (t.M.getD i default).2.1 ≠ (t.M.getD j default).2.1
abbrev asmA (mo : Int) (J : List Nat) (L : List Tx) (dn : List (Int × Int)) (c cd : Nat) : List Fam :=
  [.one (asm mo 5 6 J.length L.length c dn.length cd), .one .no, .one .no, .one .no, .one .no, .one (opnR 7 (J ++ idsOf L) (J.length + c)), .one (donR dn cd), .many (txO 8 L), .many (paO L)]

theorem rH15qC0 {σ : List Sg} {H h' : List Fam} {v : T} {K : T → List Fam → Prop} {H' : List Fam} {v' : T} {N : Nat} (hk : K v' H') (hN : H.length = N := by (try simp only [↓List.length_cons, ↓List.length_nil, Nat.reduceAdd]) <;> rfl) (h : givesF σ N H σ h' = some H' := by (try simp (maxSteps := 1000000) only [givesF, setF, updF, Fam.zeroth, Fam.rk, Ck.rk, C.rk, E.rk, T.rk, key, List.map_cons, List.map_nil, List.cons_append, List.nil_append, List.length_cons, List.length_nil, Option.map_some, Option.bind_some, Nat.reduceAdd, Nat.zero_add, Nat.add_zero, Nat.add_sub_cancel_left, Int.toNat_natCast, reps, List.all_cons, List.all_nil, C.flat, List.append_eq, Bool.not_true, Bool.and_true, Bool.or_false, Bool.or_self, Bool.not_false, List.append_nil, Bool.and_self, ↓mtG_rk, ↓winO_rk, encG]) <;> rfl) (hv : v.rk σ N = v' := by (try simp only [givesF, setF, updF, Fam.zeroth, Fam.rk, Ck.rk, C.rk, E.rk, T.rk, key, List.map_cons, List.map_nil, List.cons_append, List.nil_append, List.length_cons, List.length_nil, Option.map_some, Option.bind_some, Nat.reduceAdd, Nat.zero_add, Nat.add_zero, Nat.add_sub_cancel_left, Int.toNat_natCast, reps, List.all_cons, List.all_nil, C.flat, List.append_eq, Bool.not_true, Bool.and_true, Bool.or_false, Bool.or_self, Bool.not_false, List.append_nil, Bool.and_self, ↓mtG_rk, ↓winO_rk, encG]) <;> rfl) : RetG σ H h' v K := ret_mk3 hN h hv hk
theorem rH15qC1 {σ : List Sg} {H h' : List Fam} {v : T} {K : T → List Fam → Prop} {H' : List Fam} {v' : T} {N : Nat} (hk : K v' H') (hN : H.length = N := by (try simp only [↓List.length_cons, ↓List.length_nil, Nat.reduceAdd]) <;> rfl) (h : givesF σ N H σ h' = some H' := by (try simp (maxSteps := 1000000) only [givesF, setF, updF, Fam.zeroth, Fam.rk, Ck.rk, C.rk, E.rk, T.rk, key, List.map_cons, List.map_nil, List.cons_append, List.nil_append, List.length_cons, List.length_nil, Option.map_some, Option.bind_some, Nat.reduceAdd, Nat.zero_add, Nat.add_zero, Nat.add_sub_cancel_left, Int.toNat_natCast, reps, List.all_cons, List.all_nil, C.flat, List.append_eq, Bool.not_true, Bool.and_true, Bool.or_false, Bool.or_self, Bool.not_false, List.append_nil, Bool.and_self, ↓mtG_rk, ↓winO_rk, encG, encK, map_rk_id]) <;> rfl) (hv : v.rk σ N = v' := by (try simp only [givesF, setF, updF, Fam.zeroth, Fam.rk, Ck.rk, C.rk, E.rk, T.rk, key, List.map_cons, List.map_nil, List.cons_append, List.nil_append, List.length_cons, List.length_nil, Option.map_some, Option.bind_some, Nat.reduceAdd, Nat.zero_add, Nat.add_zero, Nat.add_sub_cancel_left, Int.toNat_natCast, reps, List.all_cons, List.all_nil, C.flat, List.append_eq, Bool.not_true, Bool.and_true, Bool.or_false, Bool.or_self, Bool.not_false, List.append_nil, Bool.and_self, ↓mtG_rk, ↓winO_rk, encG, encK, map_rk_id]) <;> rfl) : RetG σ H h' v K := ret_mk3 hN h hv hk
theorem rH15qC2 {σ : List Sg} {H h' : List Fam} {v : T} {K : T → List Fam → Prop} {H' : List Fam} {v' : T} {N : Nat} (hk : K v' H') (hN : H.length = N := by (try simp only [↓List.length_cons, ↓List.length_nil, Nat.reduceAdd]) <;> rfl) (h : givesF σ N H σ h' = some H' := by (try simp (maxSteps := 1000000) only [givesF, setF, updF, Fam.zeroth, Fam.rk, Ck.rk, C.rk, E.rk, T.rk, key, List.map_cons, List.map_nil, List.cons_append, List.nil_append, List.length_cons, List.length_nil, Option.map_some, Option.bind_some, Nat.reduceAdd, Nat.zero_add, Nat.add_zero, Nat.add_sub_cancel_left, Int.toNat_natCast, reps, List.all_cons, List.all_nil, C.flat, List.append_eq, Bool.not_true, Bool.and_true, Bool.or_false, Bool.or_self, Bool.not_false, List.append_nil, Bool.and_self, ↓mtG_rk, ↓winO_rk, encG, encK]) <;> rfl) (hv : v.rk σ N = v' := by (try simp only [givesF, setF, updF, Fam.zeroth, Fam.rk, Ck.rk, C.rk, E.rk, T.rk, key, List.map_cons, List.map_nil, List.cons_append, List.nil_append, List.length_cons, List.length_nil, Option.map_some, Option.bind_some, Nat.reduceAdd, Nat.zero_add, Nat.add_zero, Nat.add_sub_cancel_left, Int.toNat_natCast, reps, List.all_cons, List.all_nil, C.flat, List.append_eq, Bool.not_true, Bool.and_true, Bool.or_false, Bool.or_self, Bool.not_false, List.append_nil, Bool.and_self, ↓mtG_rk, ↓winO_rk, encG, encK]) <;> rfl) : RetG σ H h' v K := ret_mk3 hN h hv hk
theorem cH15qC3 {P : Program} {F : Nat} {args : List T} {H : List Fam} {K : T → List Fam → Prop} {σ : List Sg} {nl : List Fam} {args0 : List T} {h0 : List Fam} {Q : T → List Fam → Prop} {H2 H1 : List Fam} {N n : Nat} (hc : Ctr P F args0 h0 Q) (hk : ∀ v h', Q v h' → capsP h' → RetG σ H2 h' v K) (hap : apart σ = true := by rfl) (hnl : nl.all nilB = true := by rfl) (h1 : H ++ nl = H1 := by first | exact List.append_nil _ | ((try simp only [List.cons_append, List.nil_append]) <;> rfl)) (hN : H1.length = N := by (try simp only [↓List.length_cons, ↓List.length_nil, Nat.reduceAdd]) <;> rfl) (hn : H.length = n := by (try simp only [↓List.length_cons, ↓List.length_nil, Nat.reduceAdd]) <;> rfl) (hH : givesF σ N H1 σ h0 = some H2 := by (try simp (maxSteps := 1000000) only [givesF, setF, updF, Fam.zeroth, Fam.rk, Ck.rk, C.rk, E.rk, T.rk, key, List.map_cons, List.map_nil, List.cons_append, List.nil_append, List.length_cons, List.length_nil, Option.map_some, Option.bind_some, Nat.reduceAdd, Nat.zero_add, Nat.add_zero, Nat.add_sub_cancel_left, Int.toNat_natCast, reps, List.all_cons, List.all_nil, C.flat, List.append_eq, Bool.not_true, Bool.and_true, Bool.or_false, Bool.or_self, Bool.not_false, List.append_nil, Bool.and_self, ↓mtG_rk, ↓winO_rk]) <;> rfl) (hle : leS n H1 σ N σ h0 (belsK N (h0.map (Fam.rk σ N)) (argsK n args (args0.map (T.rk σ N)) True)) := by repeat' first | refine And.intro ?_ ?_ | exact xeC | fail) : CallK P F args H K := CallK.mk3 hc hap hnl h1 hN hn hH hle hk
set_option maxRecDepth 20000 in
set_option maxHeartbeats 4000000 in
theorem cAdd (mo : Int) (N : Nat) (J : List Nat) (L : List Tx) (dn : List (Int × Int)) (c cd : Nat) (fr : Int) (f : Fg) (hA : AOk mo N J L dn) :
    Ctr Try.prog 13 [.c (.p 0 0 0), .c (.i .i64 fr), .a (encG f)] (asmB mo J L dn c cd)
      fun v h => ∃ J' c' cd', (∀ j ∈ J', j < N + 1) ∧ J'.length ≤ 1 ∧ v = .t [.c (.s (mkS (addA mo N L dn fr f).2.2.1)), .c (.b (addA mo N L dn fr f).2.2.2.1), .c (.i .i64 ((addA mo N L dn fr f).2.2.2.2 : Nat))] ∧ h = asmA mo J' (addA mo N L dn fr f).1 (addA mo N L dn fr f).2.1 c' cd' := by
  have hz : (mkS f.d).size = f.d.length := rfl
  have hLl := hA.len
  have hmo := hA.mo2
  have hmo1 := hA.mo1
  have hJL : (J ++ idsOf L).length = J.length + L.length := by simp [idsOf]
  have hJl := hA.jl
  have hdl := hA.dn
  have hidN : ∀ x ∈ idsOf L, x ≠ N := fun x hx => by
    obtain ⟨t, ht, rfl⟩ := List.mem_map.1 hx
    have := hA.idN t ht
    omega
  have huN : ∀ u ∈ L, u.id ≠ N := fun u hu => by have := hA.idN u hu; omega
  have hil : (idsOf L).length = L.length := by simp [idsOf]
  refine Ctr.mk' tbv mixed Try.func13 rfl rfl rfl (fun _ _ => by kernel_rfl) (by kernel_rfl) (by rfl) (by rfl) (by (repeat' first | refine And.intro ?_ ?_ | exact xeC | fail) <;> (exact xmC)) ?_
  repeat' (first | (fail_if_success (with_reducible refine xstp ?_)); first | (with_reducible intro hc; (try simp only [capsP, and_true] at hc); (try exact xfC)) | ((fail_if_success (with_reducible first | refine xgon ?_ | intro _)); (conv => whnf); (fail_if_success (fail_if_success (with_reducible first | refine xstp ?_ | refine xgon ?_ | intro _)))))
  refine cH15qC3 (σ := []) (nl := []) (cwithin fr 0 7) ?_
  rintro v h' ⟨rfl, rfl⟩ hcaps
  refine rH15qC0 ?_
  repeat' (first | (fail_if_success (with_reducible refine xstp ?_)); first | ((with_reducible refine And.intro (fun (hb : _ = true) => ?_) (fun (hb : _ = false) => ?_)) <;> replace hb := xnC hb <;> (try first | exact xfC | exact bff hb (by assumption) | exact bff (by assumption) hb)) | ((fail_if_success (with_reducible first | refine xgon ?_ | intro _)); (conv => whnf); (fail_if_success (fail_if_success (with_reducible first | refine xstp ?_ | refine xgon ?_ | intro _)))))
  · skip
    have hadd : addA mo N L dn fr f = (L, dn, [], false, 4) := by unfold addA; rw [if_pos (fun h => hb h.1)]
    rw [hadd]
    refine FinK.mk ⟨[0, 1, 2, 3, 4, 1, 2, 3, 4], _, _, ⟨J, c, cd, fun j hj => Nat.lt_succ_of_lt (hA.jN j hj), hA.jl, rfl, rfl⟩, ?_⟩
    (repeat' first | refine And.intro ?_ ?_ | exact xeC | fail)
    all_goals (exact xmC)
  refine cH15qC3 (σ := []) (nl := []) (cvalid f) ?_
  rintro v h' ⟨rfl, rfl⟩ hcaps
  refine rH15qC0 ?_
  repeat' (first | (fail_if_success (with_reducible refine xstp ?_)); first | ((with_reducible refine And.intro (fun (hb : _ = true) => ?_) (fun (hb : _ = false) => ?_)) <;> replace hb := xnC hb <;> (try first | exact xfC | exact bff hb (by assumption) | exact bff (by assumption) hb)) | ((with_reducible refine And.intro ?_ ?_); focus exact xoC) | ((fail_if_success (with_reducible first | refine xgon ?_ | intro _)); (conv => whnf); (fail_if_success (fail_if_success (with_reducible first | refine xstp ?_ | refine xgon ?_ | intro _)))))
  · skip
    have hadd : addA mo N L dn fr f = (L, dn, [], false, 4) := by unfold addA; rw [if_pos (fun h => hb h.2)]
    rw [hadd]
    refine FinK.mk ⟨[0, 1, 2, 3, 4, 1, 2, 3, 4], _, _, ⟨J, c, cd, fun j hj => Nat.lt_succ_of_lt (hA.jN j hj), hA.jl, rfl, rfl⟩, ?_⟩
    (repeat' first | refine And.intro ?_ ?_ | exact xeC | fail)
    all_goals (exact xmC)
  have hok : (0 ≤ fr ∧ fr ≤ 7) ∧ okF f := ⟨by assumption, hb⟩
  have hokf := hok.2
  unfold okF at hokf
  refine cH15qC3 (σ := [.whole 0, .whole 1, .name 2, .whole 3, .name 4]) (nl := []) (cfind mo J L dn c cd (fr, f.id) (by omega) (find_nd hA.nd)) ?_ (hle := by (repeat' first | refine And.intro ?_ ?_ | exact xeC | fail) <;> (exact xmC))
  rintro v h' ⟨rfl, rfl⟩ hcaps
  rcases (by cases fnd L (fr, f.id) <;> simp : (∃ k, fnd L (fr, f.id) = some k) ∨ fnd L (fr, f.id) = none) with ⟨k, hf⟩ | hf
  · rw [resF_some hf]
    have hadd0 := addA_some (mo := mo) (N := N) (dn := dn) hok hf
    have hk := fnd_lt hf
    have hx := find_nd hA.nd k hk
    refine rH15qC1 ?_
    repeat' (first | (fail_if_success (with_reducible refine xstp ?_)); first | ((fail_if_success (with_reducible first | refine xgon ?_ | intro _)); (conv => whnf); (fail_if_success (fail_if_success (with_reducible first | refine xstp ?_ | refine xgon ?_ | intro _)))))
    refine ManyK.mk ⟨txD 4 (L.getD k default).id (L.getD k default), by show txG _ _ _ _ = _; unfold txG; rw [hx], ?_⟩
    repeat' (first | (fail_if_success (with_reducible refine xstp ?_)); first | ((fail_if_success (with_reducible first | refine xgon ?_ | intro _)); (conv => whnf); (fail_if_success (fail_if_success (with_reducible first | refine xstp ?_ | refine xgon ?_ | intro _)))))
    refine ManyK.mk ⟨paC (L.getD k default), by show paO _ _ = _; unfold paO; rw [hx], ?_⟩
    repeat' (first | (fail_if_success (with_reducible refine xstp ?_)); first | (with_reducible refine Both.mk ?_ ?_) | ((with_reducible refine And.intro ?_ ?_); focus exact xoC) | (with_reducible intro hc; (try simp only [capsP, and_true] at hc); (try exact xfC)) | ((fail_if_success (with_reducible first | refine xgon ?_ | intro _)); (conv => whnf); (fail_if_success (fail_if_success (with_reducible first | refine xstp ?_ | refine Both.mk ?_ ?_ | refine xgon ?_ | intro _)))))
    · rename_i i hi
      have hki : ((L.getD k default).M.getD i default).2.1 = f.ix := Key.i.inj hc
      have hpg := pget_at (hA.key _ (by rw [getD_at hk]; exact List.getElem_mem _)) hi hki
      rw [hpg] at hadd0
      refine ManyK.mk ⟨txD 4 (L.getD k default).id (L.getD k default), by show txG _ _ _ _ = _; unfold txG; rw [hx], ?_⟩
      repeat' (first | (fail_if_success (with_reducible refine xstp ?_)); first | ((with_reducible refine And.intro (fun (hb : _ = true) => ?_) (fun (hb : _ = false) => ?_)) <;> replace hb := xnC hb <;> (try first | exact xfC | exact bff hb (by assumption) | exact bff (by assumption) hb)) | ((fail_if_success (with_reducible first | refine xgon ?_ | intro _)); (conv => whnf); (fail_if_success (fail_if_success (with_reducible first | refine xstp ?_ | refine xgon ?_ | intro _)))))
      · skip
        have hadd : addA mo N L dn fr f = (L, dn, [], false, 2) := by rw [hadd0, if_pos hb]
        rw [hadd]
        refine FinK.mk ⟨[0, 1, 2, 3, 4, 1, 2, 3, 4], _, _, ⟨J, c, cd, fun j hj => Nat.lt_succ_of_lt (hA.jN j hj), hA.jl, rfl, rfl⟩, ?_⟩
        (repeat' first | refine And.intro ?_ ?_ | exact xeC | fail)
        all_goals (exact xmC)
      · skip
        have hadd : addA mo N L dn fr f = (L, dn, [], false, 2) := by rw [hadd0, if_neg (by simpa using ‹(L.getD k default).ct = f.ct›)]; exact if_pos (fun e => hb (by rw [e]))
        rw [hadd]
        refine FinK.mk ⟨[0, 1, 2, 3, 4, 1, 2, 3, 4], _, _, ⟨J, c, cd, fun j hj => Nat.lt_succ_of_lt (hA.jN j hj), hA.jl, rfl, rfl⟩, ?_⟩
        (repeat' first | refine And.intro ?_ ?_ | exact xeC | fail)
        all_goals (exact xmC)
      · skip
        have hadd : addA mo N L dn fr f = (L, dn, [], false, 0) := by rw [hadd0, if_neg (by simpa using ‹(L.getD k default).ct = f.ct›)]; exact if_neg (fun e => e (mkS_inj.1 hb))
        rw [hadd]
        refine FinK.mk ⟨[0, 1, 2, 3, 4, 1, 2, 3, 4], _, _, ⟨J, c, cd, fun j hj => Nat.lt_succ_of_lt (hA.jN j hj), hA.jl, rfl, rfl⟩, ?_⟩
        (repeat' first | refine And.intro ?_ ?_ | exact xeC | fail)
        all_goals (exact xmC)
    · have hno0 := hc
      have hpg : pget (L.getD k default).M f.ix = none := pget_no (fun i hi e => hc i hi (by rw [e]))
      rw [hpg] at hadd0
      refine ManyK.mk ⟨txD 4 (L.getD k default).id (L.getD k default), by show txG _ _ _ _ = _; unfold txG; rw [hx], ?_⟩
      repeat' (first | (fail_if_success (with_reducible refine xstp ?_)); first | ((with_reducible refine And.intro (fun (hb : _ = true) => ?_) (fun (hb : _ = false) => ?_)) <;> replace hb := xnC hb <;> (try first | exact xfC | exact bff hb (by assumption) | exact bff (by assumption) hb)) | ((fail_if_success (with_reducible first | refine xgon ?_ | intro _)); (conv => whnf); (fail_if_success (fail_if_success (with_reducible first | refine xstp ?_ | refine xgon ?_ | intro _)))))
      · skip
        have hadd : addA mo N L dn fr f = (L, dn, [], false, 2) := by rw [hadd0, if_pos hb]
        rw [hadd]
        refine FinK.mk ⟨[0, 1, 2, 3, 4, 1, 2, 3, 4], _, _, ⟨J, c, cd, fun j hj => Nat.lt_succ_of_lt (hA.jN j hj), hA.jl, rfl, rfl⟩, ?_⟩
        (repeat' first | refine And.intro ?_ ?_ | exact xeC | fail)
        all_goals (exact xmC)
      have hct := hb
      rw [if_neg (by simpa using hct)] at hadd0
      simp only at hadd0
      have htm : L.getD k default ∈ L := by rw [getD_at hk]; exact List.getElem_mem _
      have htc := hA.ct _ htm
      have htl := hA.mlen _ htm
      refine ManyK.mk ⟨txD 4 (L.getD k default).id (L.getD k default), by show txG _ _ _ _ = _; unfold txG; rw [hx], ?_⟩
      repeat' (first | (fail_if_success (with_reducible refine xstp ?_)); first | ((fail_if_success (with_reducible first | refine xgon ?_ | intro _)); (conv => whnf); (fail_if_success (fail_if_success (with_reducible first | refine xstp ?_ | refine xgon ?_ | intro _)))))
      refine ManyK.mk ⟨paC (L.getD k default), by show paO _ _ = _; unfold paO; rw [hx], ?_⟩
      repeat' (first | (fail_if_success (with_reducible refine xstp ?_)); first | (with_reducible refine Both.mk ?_ ?_) | ((with_reducible refine And.intro ?_ ?_); focus exact xoC) | (with_reducible intro hc; (try simp only [capsP, and_true] at hc); (try exact xfC)) | ((fail_if_success (with_reducible first | refine xgon ?_ | intro _)); (conv => whnf); (fail_if_success (fail_if_success (with_reducible first | refine xstp ?_ | refine Both.mk ?_ ?_ | refine xgon ?_ | intro _)))))
      · rename_i i hi
        exact absurd hc (hno0 i hi)
      refine ManyK.mk ⟨txD 4 (L.getD k default).id (L.getD k default), by show txG _ _ _ _ = _; unfold txG; rw [hx], ?_⟩
      repeat' (first | (fail_if_success (with_reducible refine xstp ?_)); first | ((fail_if_success (with_reducible first | refine xgon ?_ | intro _)); (conv => whnf); (fail_if_success (fail_if_success (with_reducible first | refine xstp ?_ | refine xgon ?_ | intro _)))))
      refine ManyK.mk ⟨_, if_pos rfl, ?_⟩
      repeat' (first | (fail_if_success (with_reducible refine xstp ?_)); first | ((fail_if_success (with_reducible first | refine xgon ?_ | intro _)); (conv => whnf); (fail_if_success (fail_if_success (with_reducible first | refine xstp ?_ | refine xgon ?_ | intro _)))))
      refine ManyK.mk ⟨txD 4 (L.getD k default).id (L.getD k default), by show txG _ _ _ _ = _; unfold txG; rw [hx], ?_⟩
      repeat' (first | (fail_if_success (with_reducible refine xstp ?_)); first | ((with_reducible refine And.intro (fun (hb : _ = true) => ?_) (fun (hb : _ = false) => ?_)) <;> replace hb := xnC hb <;> (try first | exact xfC | exact bff hb (by assumption) | exact bff (by assumption) hb)) | ((with_reducible refine And.intro ?_ ?_); focus exact xoC) | ((with_reducible refine xwE ?_ ?_); focus exact xaC) | (with_reducible intro hc; (try simp only [capsP, and_true] at hc); (try exact xfC)) | ((fail_if_success (with_reducible first | refine xgon ?_ | intro _)); (conv => whnf); (fail_if_success (fail_if_success (with_reducible first | refine xstp ?_ | refine xgon ?_ | intro _)))))
      · rw [if_pos (by omega)] at hadd0
        rw [hadd0]
        refine FinK.mk ⟨[0, 1, 2, 3, 4, 1, 2, 3, 4], _, asmA mo J (L.set k (insT (L.getD k default) f)) dn c cd, ⟨J, c, cd, fun j hj => Nat.lt_succ_of_lt (hA.jN j hj), hA.jl, rfl, rfl⟩, ?_⟩
        rw [asmA, idsOf_set hk, List.length_set]
        (repeat' first | refine And.intro ?_ ?_ | exact xeC | fail)
        · exact fun x => le_tx_set rfl hA.nd hk
        · exact fun x => le_pa_set hA.nd hk
        all_goals (exact xmC)
      · rw [if_neg (by omega)] at hadd0
        rw [hadd0]
        rename_i c2
        have e1 : ((k : Int) + 1).toNat = k + 1 := by omega
        simp only [Int.toNat_natCast, e1] at *
        refine cH15qC3 (σ := [.whole 0, .name 7, .whole 2]) (nl := []) (cremember mo 0 (k + (L.length - (k + 1))) c2 dn cd (fr, f.id) (by omega)) ?_
        rintro v h' ⟨c3, rfl, rfl⟩ hcaps
        refine rH15qC2 ?_
        repeat' (first | (fail_if_success (with_reducible refine xstp ?_)); first | ((fail_if_success (with_reducible first | refine xgon ?_ | intro _)); (conv => whnf); (fail_if_success (fail_if_success (with_reducible first | refine xstp ?_ | refine xgon ?_ | intro _)))))
        refine ManyK.mk ⟨txD 4 (L.getD k default).id (L.getD k default), by show txG _ _ _ _ = _; unfold txG; rw [hx], ?_⟩
        repeat' (first | (fail_if_success (with_reducible refine xstp ?_)); first | ((fail_if_success (with_reducible first | refine xgon ?_ | intro _)); (conv => whnf); (fail_if_success (fail_if_success (with_reducible first | refine xstp ?_ | refine xgon ?_ | intro _)))))
        have hno1 : ∀ i, i < (L.getD k default).M.length → ((L.getD k default).M.getD i default).2.1 ≠ f.ix := fun i hi e => hno0 i hi (by rw [e])
        have hkd : ∀ i j, i < j → j < (insT (L.getD k default) f).M.length → ((insT (L.getD k default) f).M.getD i default).2.1 ≠ ((insT (L.getD k default) f).M.getD j default).2.1 := key_snoc (s := (L.getD k default).ck) (d := f.d) (hA.key _ htm) hno1
        have hdd : ∀ e ∈ (insT (L.getD k default) f).M, e.2.2.length ≤ 4000 := by
          intro e he
          rcases List.mem_append.1 he with he | he
          · exact hA.dat _ htm e he
          · rw [List.mem_singleton.1 he]; exact hokf.2.2.2
        have hlc := cutL_len hk
        have hci : (idsOf (cutL L k)).length = (cutL L k).length := by simp [idsOf]
        refine LoopK.mk' {i : Nat // (i : Int) ≤ (L.getD k default).ct}
          (fun ⟨i, _⟩ => ⟨[(11, .c (.p 3 (L.getD k default).id 0)), (14, .c (.s (mkS (outS f.ct (insT (L.getD k default) f).M i)))), (152, .c (.i .i64 (L.getD k default).ct)), (153, .c (.i .i64 (i : Nat)))],
            [.one (asm mo 7 8 0 (cutL L k).length c2 (remD dn (fr, f.id)).length c3), .one .no, .one .no, .many (fun x => txG 4 x L x), .many (paO (L.set k (insT (L.getD k default) f))), .one .no, .one .no, .one (opnR 3 (idsOf (cutL L k)) c2), .one (donR (remD dn (fr, f.id)) c3)]⟩) (fun i => (L.getD k default).ct.toNat - i.1)
          ⟨⟨0, by omega⟩, [0, 1, 2, 3, 4, 5, 6, 7, 8], ?_⟩ ?_
        · (repeat' first | refine And.intro ?_ ?_ | exact xeC | fail)
          all_goals first
            | omega
            | exact fun x => mtO_le rfl
            | exact fun x => le_pa_set hA.nd hk
            | (exact xmC)
            | (intro i hi
               rw [hci, hlc] at hi
               have hcu := cut_ids (F := 3) (J := J) (ids := idsOf L) (k := k) (c := c) (by omega) (by omega) i (by omega)
               rw [← ids_cut] at hcu
               exact hcu)
        rintro ⟨i, hi⟩
        have hol := outS_le f.ct hdd i
        have hoz : (mkS (outS f.ct (insT (L.getD k default) f).M i)).size = (outS f.ct (insT (L.getD k default) f).M i).length := rfl
        have hpl := pget_le hdd (i : Nat)
        repeat' (first | (fail_if_success (with_reducible refine xstp ?_)); first | ((with_reducible refine And.intro (fun (hb : _ = true) => ?_) (fun (hb : _ = false) => ?_)) <;> replace hb := xnC hb <;> (try first | exact xfC | exact bff hb (by assumption) | exact bff (by assumption) hb)) | (with_reducible intro hc; (try simp only [capsP, and_true] at hc); (try exact xfC)) | ((fail_if_success (with_reducible first | refine xgon ?_ | intro _)); (conv => whnf); (fail_if_success (fail_if_success (with_reducible first | refine xstp ?_ | refine xgon ?_ | intro _)))))
        · skip
          refine ManyK.mk ⟨txD 4 (L.getD k default).id (L.getD k default), by show txG _ _ _ _ = _; unfold txG; rw [hx], ?_⟩
          repeat' (first | (fail_if_success (with_reducible refine xstp ?_)); first | ((fail_if_success (with_reducible first | refine xgon ?_ | intro _)); (conv => whnf); (fail_if_success (fail_if_success (with_reducible first | refine xstp ?_ | refine xgon ?_ | intro _)))))
          refine ManyK.mk ⟨paC (insT (L.getD k default) f), by rw [paO_set hA.nd hk, if_pos rfl], ?_⟩
          repeat' (first | (fail_if_success (with_reducible refine xstp ?_)); first | (with_reducible refine Both.mk ?_ ?_) | ((with_reducible refine And.intro ?_ ?_); focus exact xoC) | (with_reducible intro hc; (try simp only [capsP, and_true] at hc); (try exact xfC)) | ((fail_if_success (with_reducible first | refine xgon ?_ | intro _)); (conv => whnf); (fail_if_success (fail_if_success (with_reducible first | refine xstp ?_ | refine Both.mk ?_ ?_ | refine xgon ?_ | intro _)))))
          · rename_i q hq
            have hkq : ((insT (L.getD k default) f).M.getD q default).2.1 = (i : Nat) := Key.i.inj hc
            have hpq := pget_at hkd hq hkq
            have hq4 : (mkS ((insT (L.getD k default) f).M.getD q default).2.2).size ≤ 4000 := hdd _ (by rw [getD_at hq]; exact List.getElem_mem _)
            repeat' (first | (fail_if_success (with_reducible refine xstp ?_)); first | ((with_reducible refine And.intro ?_ ?_); focus exact xoC) | ((fail_if_success (with_reducible first | refine xgon ?_ | intro _)); (conv => whnf); (fail_if_success (fail_if_success (with_reducible first | refine xstp ?_ | refine xgon ?_ | intro _)))))
            rw [mkS_append]
            refine ⟨⟨i + 1, by omega⟩, [0, 1, 2, 3, 4, 5, 6, 7, 8], by simp only; omega, ?_⟩
            (repeat' first | refine And.intro ?_ ?_ | exact xeC | fail)
            all_goals first
              | (exact xmC)
              | (rw [outS_succ]
                 show mkS _ = mkS (_ ++ (pget (insT (L.getD k default) f).M _).getD [])
                 rw [hpq]
                 rfl)
          · have hpq : pget (insT (L.getD k default) f).M (i : Nat) = none := pget_no (fun q hq e => hc q hq (by rw [e]))
            have he0 : (({ data := #[] } : ByteArray)).size = 0 := rfl
            repeat' (first | (fail_if_success (with_reducible refine xstp ?_)); first | ((with_reducible refine And.intro ?_ ?_); focus exact xoC) | ((fail_if_success (with_reducible first | refine xgon ?_ | intro _)); (conv => whnf); (fail_if_success (fail_if_success (with_reducible first | refine xstp ?_ | refine xgon ?_ | intro _)))))
            rw [show ({ data := #[] } : ByteArray) = mkS [] from rfl, mkS_append]
            refine ⟨⟨i + 1, by omega⟩, [0, 1, 2, 3, 4, 5, 6, 7, 8], by simp only; omega, ?_⟩
            (repeat' first | refine And.intro ?_ ?_ | exact xeC | fail)
            all_goals first
              | (exact xmC)
              | (rw [outS_succ, hpq]
                 rfl)
        · obtain rfl : i = f.ct.toNat := by omega
          refine FinK.mk ⟨[0, 1, 2, 3, 4, 7, 8, 3, 4], _, asmA mo [] (cutL L k) (remD dn (fr, f.id)) c2 c3, ⟨[], c2, c3, by simp, by simp, rfl, rfl⟩, ?_⟩
          (repeat' first | refine And.intro ?_ ?_ | exact xeC | fail)
          all_goals first
            | exact fun x => le_tx_cut rfl hA.nd hk
            | exact fun x => le_pa_cut hA.nd hk
            | (exact xmC)
            | simp
  · rw [resF_none hf]
    have hadd0 := addA_none (mo := mo) (N := N) (dn := dn) hok hf
    refine rH15qC1 ?_
    repeat' (first | (fail_if_success (with_reducible refine xstp ?_)); first | ((with_reducible refine And.intro ?_ ?_); focus exact xoC) | ((fail_if_success (with_reducible first | refine xgon ?_ | intro _)); (conv => whnf); (fail_if_success (fail_if_success (with_reducible first | refine xstp ?_ | refine xgon ?_ | intro _)))))
    refine cH15qC3 (σ := [.whole 0, .name 1, .whole 2]) (nl := []) (ccompleted mo J.length L.length c dn cd (fr, f.id) (by omega)) ?_
    rintro v h' ⟨rfl, rfl⟩ hcaps
    refine rH15qC2 ?_
    repeat' (first | (fail_if_success (with_reducible refine xstp ?_)); first | ((with_reducible refine And.intro (fun (hb : _ = true) => ?_) (fun (hb : _ = false) => ?_)) <;> replace hb := xnC hb <;> (try first | exact xfC | exact bff hb (by assumption) | exact bff (by assumption) hb)) | (with_reducible refine Both.mk ?_ ?_) | ((with_reducible refine And.intro ?_ ?_); focus exact xoC) | ((with_reducible refine xwC ?_ ?_); focus exact xaC) | ((with_reducible refine xwE ?_ ?_); focus exact xaC) | (with_reducible intro hc; (try simp only [capsP, and_true] at hc); (try exact xfC)) | ((fail_if_success (with_reducible first | refine xgon ?_ | intro _)); (conv => whnf); (fail_if_success (fail_if_success (with_reducible first | refine xstp ?_ | refine Both.mk ?_ ?_ | refine xgon ?_ | intro _)))))
    · skip
      have hadd : addA mo N L dn fr f = (L, dn, [], false, 0) := by rw [hadd0, if_pos hb]
      rw [hadd]
      refine FinK.mk ⟨[0, 1, 2, 3, 4, 1, 2, 3, 4], _, _, ⟨J, c, cd, fun j hj => Nat.lt_succ_of_lt (hA.jN j hj), hA.jl, rfl, rfl⟩, ?_⟩
      (repeat' first | refine And.intro ?_ ?_ | exact xeC | fail)
      all_goals (exact xmC)
    all_goals rw [if_neg (by assumption)] at hadd0
    · rename_i c2 _ _
      rw [if_pos (by omega), if_pos (by omega)] at hadd0
      rw [hadd0]
      have h0L : 0 < L.length := by omega
      have eids : idsOf L = (L.getD 0 default).id :: idsOf (L.drop 1) := by
        cases L with
        | nil => simp at h0L
        | cons a l => rfl
      have huN1 : ∀ u ∈ L.drop 1, u.id ≠ N := fun u hu => huN u (List.mem_of_mem_drop hu)
      refine FinK.mk ⟨[0, 1, 2, 3, 4, 10, 2, .adopt 3 N 8, .adopt 4 N 7], _, asmA mo [(L.getD 0 default).id] (L.drop 1 ++ [newT N fr f]) dn (c2 - 1) cd, ⟨[(L.getD 0 default).id], c2 - 1, cd, fun j hj => by
        rw [List.mem_singleton.1 hj]
        have := hA.idN (L.getD 0 default) (by rw [getD_at h0L]; exact List.getElem_mem _)
        omega, by simp, rfl, rfl⟩, ?_⟩
      (repeat' first | refine And.intro ?_ ?_ | exact xeC | fail)
      all_goals first
        | (simp; omega)
        | (simp [idsOf]; omega)
        | (intro i hi
           have had := adopt_ids (σ := [0, 1, 2, 3, 4, 10, 2, .adopt 3 N 8, .adopt 4 N 7]) (N := N) (J := J) (ids := idsOf L) (ids' := [(L.getD 0 default).id] ++ idsOf (L.drop 1 ++ [newT N fr f])) (fun x => by simp [key]) hidN (by rw [eids]; simp [idsOf, newT]) (chunkOf 1 [.p 8 0 0]) rfl i hi
           rw [hil] at had
           exact had)
        | (intro x hx
           show Ck.leK _ (txG 4 x L x) (Ck.rk _ _ (txG 8 x (L.drop 1 ++ [newT N fr f]) x)) True
           rw [txG_ne (by exact hx)]
           exact le_tx_cut (k := 0) (by simp [key, hx]) hA.nd h0L)
        | (intro x hx
           show Ck.leK _ (paO L x) (Ck.rk _ _ (paO (L.drop 1 ++ [newT N fr f]) x)) True
           rw [paO_ne (by exact hx)]
           exact le_pa_drop hA.nd h0L)
        | (exact xmC)
        | skip
      refine le_tx_new huN1 (by simp [key]) rfl ?_
      (repeat' first | refine And.intro ?_ ?_ | exact xeC | fail)
      all_goals first
        | (intro x hx
           show Ck.leK _ (paO L x) (Ck.rk _ _ (paO (L.drop 1 ++ [newT N fr f]) x)) True
           rw [paO_ne (by exact hx)]
           exact le_pa_drop hA.nd h0L)
        | skip
      refine le_pa_new huN1 rfl rfl ?_
      (repeat' first | refine And.intro ?_ ?_ | exact xeC | fail)
      all_goals (exact xmC)
    · rename_i c2 _ _
      rw [if_pos (by omega), if_neg (by omega)] at hadd0
      rw [hadd0]
      refine FinK.mk ⟨[0, 1, 2, 3, 4, 10, 2, .adopt 3 N 8, .adopt 4 N 7], _, asmA mo [] (L ++ [newT N fr f]) dn c2 cd, ⟨[], c2, cd, by simp, by simp, rfl, rfl⟩, ?_⟩
      (repeat' first | refine And.intro ?_ ?_ | exact xeC | fail)
      all_goals first
        | (simp; done)
        | (simp [idsOf]; done)
        | (intro i hi
           have had := adopt_ids (σ := [0, 1, 2, 3, 4, 10, 2, .adopt 3 N 8, .adopt 4 N 7]) (N := N) (J := J) (ids := idsOf L) (ids' := [] ++ idsOf (L ++ [newT N fr f])) (fun x => by simp [key]) hidN (by simp [idsOf, newT]) (chunkOf 1 [.p 8 0 0]) rfl i hi
           rw [hil] at had
           exact had)
        | (intro x hx
           show Ck.leK _ (txG 4 x L x) (Ck.rk _ _ (txG 8 x (L ++ [newT N fr f]) x)) True
           rw [txG_ne (by exact hx)]
           exact mtO_le (by simp [key, hx]))
        | (intro x hx
           show Ck.leK _ (paO L x) (Ck.rk _ _ (paO (L ++ [newT N fr f]) x)) True
           rw [paO_ne (by exact hx)]
           exact winO_le)
        | (exact xmC)
        | skip
      refine le_tx_new huN (by simp [key]) rfl ?_
      (repeat' first | refine And.intro ?_ ?_ | exact xeC | fail)
      · intro x hx
        show Ck.leK _ (paO L x) (Ck.rk _ _ (paO (L ++ [newT N fr f]) x)) True
        rw [paO_ne (by exact hx)]
        exact winO_le
      refine le_pa_new huN rfl rfl ?_
      (repeat' first | refine And.intro ?_ ?_ | exact xeC | fail)
      all_goals (exact xmC)
    · rw [if_neg (by omega)] at hadd0
      rw [hadd0]
      rename_i c2
      have e0 : ((L.length : Int)).toNat + (L.length + 1 - ((L.length : Int) + 1).toNat) = L.length := by omega
      rw [e0]
      refine cH15qC3 (σ := [.whole 0, .name 11, .whole 2]) (nl := []) (cremember mo 0 L.length c2 dn cd (fr, f.id) (by omega)) ?_
      rintro v h' ⟨c3, rfl, rfl⟩ hcaps
      refine rH15qC2 ?_
      repeat' (first | (fail_if_success (with_reducible refine xstp ?_)); first | ((fail_if_success (with_reducible first | refine xgon ?_ | intro _)); (conv => whnf); (fail_if_success (fail_if_success (with_reducible first | refine xstp ?_ | refine xgon ?_ | intro _)))))
      have hct1 : f.ct = 1 := by omega
      have hix : f.ix = 0 := by omega
      have hml : ∀ i, (mkS (if i = 0 then [] else f.d)).size ≤ 4000 := by
        intro i
        split
        · exact Nat.zero_le _
        · exact hokf.2.2.2
      refine LoopK.mk' {i : Nat // (i : Int) ≤ f.ct}
        (fun ⟨i, _⟩ => ⟨[(11, .c (.p 8 0 0)), (14, .c (.s (mkS (if i = 0 then [] else f.d)))), (152, .c (.i .i64 f.ct)), (153, .c (.i .i64 (i : Nat)))],
          [.one (asm mo 11 12 0 L.length c2 (remD dn (fr, f.id)).length c3), .one .no, .one .no, .many (fun x => txG 4 x L x), .many (paO L), .one .no, .one .no, .one (.map true false 1 1 fun _ => (0, Key.i f.ix, E.c (C.s (mkS f.d)))), .one (.cells true [.i .i64 fr, .i .i64 f.id, .i .i64 f.ct, .mp 7 0]), .one .no, .one .no, .one (opnR 3 (idsOf L) c2), .one (donR (remD dn (fr, f.id)) c3)]⟩) (fun i => f.ct.toNat - i.1)
        ⟨⟨0, by omega⟩, [0, 1, 2, 3, 4, 5, 6, 7, 8, 9, 10, 11, 12], ?_⟩ ?_
      · (repeat' first | refine And.intro ?_ ?_ | exact xeC | fail)
        all_goals first
          | omega
          | (exact xmC)
          | (intro i hi
             have hi : i < L.length := by omega
             simp [appF, hi, rowOf, encId, List.getD, List.getElem?_append_right]
             rfl)
          | (intro i hi
             obtain rfl : i = 0 := by omega
             rfl)
          | skip
      rintro ⟨i, hi⟩
      have hoz := hml i
      repeat' (first | (fail_if_success (with_reducible refine xstp ?_)); first | ((with_reducible refine And.intro (fun (hb : _ = true) => ?_) (fun (hb : _ = false) => ?_)) <;> replace hb := xnC hb <;> (try first | exact xfC | exact bff hb (by assumption) | exact bff (by assumption) hb)) | (with_reducible refine Both.mk ?_ ?_) | ((with_reducible refine And.intro ?_ ?_); focus exact xoC) | (with_reducible intro hc; (try simp only [capsP, and_true] at hc); (try exact xfC)) | ((fail_if_success (with_reducible first | refine xgon ?_ | intro _)); (conv => whnf); (fail_if_success (fail_if_success (with_reducible first | refine xstp ?_ | refine Both.mk ?_ ?_ | refine xgon ?_ | intro _)))))
      · have hi0 : i = 0 := by omega
        subst hi0
        rename_i q hq
        repeat' (first | (fail_if_success (with_reducible refine xstp ?_)); first | ((with_reducible refine And.intro (fun (hb : _ = true) => ?_) (fun (hb : _ = false) => ?_)) <;> replace hb := xnC hb <;> (try first | exact xfC | exact bff hb (by assumption) | exact bff (by assumption) hb)) | (with_reducible refine Both.mk ?_ ?_) | ((with_reducible refine And.intro ?_ ?_); focus exact xoC) | ((with_reducible refine Or.inl ⟨?_, ?_, ?_⟩); (focus rfl); focus exact xaC) | ((with_reducible refine xwB ?_ ?_); focus exact xaC) | ((with_reducible refine xwC ?_ ?_); focus exact xaC) | ((with_reducible refine xwD ?_ ?_); focus exact xaC) | ((with_reducible refine xwE ?_ ?_); focus exact xaC) | (with_reducible intro hc; (try simp only [capsP, and_true] at hc); (try exact xfC)) | ((fail_if_success (with_reducible first | refine xgon ?_ | intro _)); (conv => whnf); (fail_if_success (fail_if_success (with_reducible first | refine xstp ?_ | refine Both.mk ?_ ?_ | refine xgon ?_ | intro _)))))
        rw [mkS_append]
        refine ⟨⟨1, by omega⟩, [0, 1, 2, 3, 4, 5, 6, 7, 8, 9, 10, 11, 12], by simp only; omega, ?_⟩
        (repeat' first | refine And.intro ?_ ?_ | exact xeC | fail)
        all_goals (exact xmC)
      · exfalso
        exact hc 0 (by omega) (by show Key.i f.ix = _; rw [hix, show i = 0 by omega]; rfl)
      · have hi1 : i = 1 := by omega
        subst hi1
        refine FinK.mk ⟨[0, 1, 2, 3, 4, 11, 12, 3, 4], _, asmA mo [] L (remD dn (fr, f.id)) c2 c3, ⟨[], c2, c3, by simp, by simp, rfl, rfl⟩, ?_⟩
        (repeat' first | refine And.intro ?_ ?_ | exact xeC | fail)
        all_goals first | (exact xmC) | simp
end Go.Proofs.Ytgaodeffbgppmaa


namespace Go.Proofs.Ytgaodeffbgppmaa
open Go.X
set_option linter.unusedSimpArgs false
set_option linter.unusedVariables false
open P4
open P5
set_option maxRecDepth 10000 in
theorem cvalidR (f : Fg) (hd : f.d.length ≤ 1000000) :
    Ctr Try.prog 29 [.a (encG f)] [] fun v h => v = .c (.b (decide (okF f))) ∧ h = [] := by
  have hz : (mkS f.d).size = f.d.length := rfl
  refine Ctr.mk' tbv mixed Try.func29 rfl rfl rfl (fun _ _ => by kernel_rfl) (by kernel_rfl) (by rfl) (by rfl) (by (repeat' first | refine And.intro ?_ ?_ | exact xeC | fail)) ?_
  repeat' (first | (fail_if_success (with_reducible refine xstp ?_)); first | ((with_reducible refine And.intro (fun (hb : _ = true) => ?_) (fun (hb : _ = false) => ?_)) <;> replace hb := xnC hb <;> (try first | exact xfC | exact bff hb (by assumption) | exact bff (by assumption) hb)) | (with_reducible intro hc; (try simp only [capsP, and_true] at hc); (try exact xfC)) | ((fail_if_success (with_reducible first | refine xgon ?_ | intro _)); (conv => whnf); (fail_if_success (fail_if_success (with_reducible first | refine xstp ?_ | refine xgon ?_ | intro _)))))
  all_goals (
    refine FinK.mk ⟨[], _, _, ⟨rfl, rfl⟩, ?_⟩; (repeat' first | refine And.intro ?_ ?_ | exact xeC | fail)
    all_goals (first | exact decide_eq_true (by unfold okF; omega) | exact decide_eq_false (by unfold okF; omega) | exact (decide_eq_true (by unfold okF; omega)).symm | exact (decide_eq_false (by unfold okF; omega)).symm | exact decide_eq_decide.2 (by unfold okF; omega)))

end Go.Proofs.Ytgaodeffbgppmaa


namespace Go.Proofs.Ytgaodeffbgppmaa
open Go.X
set_option linter.unusedSimpArgs false
set_option linter.unusedVariables false
open P4
open P5
def aw : Pk := ⟨4, 0, 1, 2, 3, 0, 1, 4, 0, [], []⟩
theorem aok0 {mo : Int} {N : Nat} (h : 1 ≤ mo) (h2 : mo ≤ 256) : AOk mo N [] [] [] := ⟨h, h2, by simp only [List.length_nil]; omega, by simp, by simp [idsOf], by simp, by simp, by simp, by simp, by simp, by simp, by simp, by simp⟩
theorem rH15sA0 {σ : List Sg} {H h' : List Fam} {v : T} {K : T → List Fam → Prop} {H' : List Fam} {v' : T} {N : Nat} (hk : K v' H') (hN : H.length = N := by (try simp only [↓List.length_cons, ↓List.length_nil, Nat.reduceAdd]) <;> rfl) (h : givesF σ N H σ h' = some H' := by (try simp (maxSteps := 1000000) only [givesF, setF, updF, Fam.zeroth, Fam.rk, Ck.rk, C.rk, E.rk, T.rk, key, List.map_cons, List.map_nil, List.cons_append, List.nil_append, List.length_cons, List.length_nil, Option.map_some, Option.bind_some, Nat.reduceAdd, Nat.zero_add, Nat.add_zero, Nat.add_sub_cancel_left, Int.toNat_natCast, reps, List.all_cons, List.all_nil, C.flat, List.append_eq, Bool.not_true, Bool.and_true, Bool.or_false, Bool.or_self, Bool.not_false, List.append_nil, Bool.and_self, ↓mtG_rk, ↓winO_rk, encP]) <;> rfl) (hv : v.rk σ N = v' := by (try simp only [givesF, setF, updF, Fam.zeroth, Fam.rk, Ck.rk, C.rk, E.rk, T.rk, key, List.map_cons, List.map_nil, List.cons_append, List.nil_append, List.length_cons, List.length_nil, Option.map_some, Option.bind_some, Nat.reduceAdd, Nat.zero_add, Nat.add_zero, Nat.add_sub_cancel_left, Int.toNat_natCast, reps, List.all_cons, List.all_nil, C.flat, List.append_eq, Bool.not_true, Bool.and_true, Bool.or_false, Bool.or_self, Bool.not_false, List.append_nil, Bool.and_self, ↓mtG_rk, ↓winO_rk, encP]) <;> rfl) : RetG σ H h' v K := ret_mk3 hN h hv hk
theorem rH15sA1 {σ : List Sg} {H h' : List Fam} {v : T} {K : T → List Fam → Prop} {H' : List Fam} {v' : T} {N : Nat} (hk : K v' H') (hN : H.length = N := by (try simp only [↓List.length_cons, ↓List.length_nil, Nat.reduceAdd]) <;> rfl) (h : givesF σ N H σ h' = some H' := by (try simp (maxSteps := 1000000) only [givesF, setF, updF, Fam.zeroth, Fam.rk, Ck.rk, C.rk, E.rk, T.rk, key, List.map_cons, List.map_nil, List.cons_append, List.nil_append, List.length_cons, List.length_nil, Option.map_some, Option.bind_some, Nat.reduceAdd, Nat.zero_add, Nat.add_zero, Nat.add_sub_cancel_left, Int.toNat_natCast, reps, List.all_cons, List.all_nil, C.flat, List.append_eq, Bool.not_true, Bool.and_true, Bool.or_false, Bool.or_self, Bool.not_false, List.append_nil, Bool.and_self, ↓mtG_rk, ↓winO_rk]) <;> rfl) (hv : v.rk σ N = v' := by (try simp only [givesF, setF, updF, Fam.zeroth, Fam.rk, Ck.rk, C.rk, E.rk, T.rk, key, List.map_cons, List.map_nil, List.cons_append, List.nil_append, List.length_cons, List.length_nil, Option.map_some, Option.bind_some, Nat.reduceAdd, Nat.zero_add, Nat.add_zero, Nat.add_sub_cancel_left, Int.toNat_natCast, reps, List.all_cons, List.all_nil, C.flat, List.append_eq, Bool.not_true, Bool.and_true, Bool.or_false, Bool.or_self, Bool.not_false, List.append_nil, Bool.and_self, ↓mtG_rk, ↓winO_rk]) <;> rfl) : RetG σ H h' v K := ret_mk3 hN h hv hk
theorem rH15sA2 {σ : List Sg} {H h' : List Fam} {v : T} {K : T → List Fam → Prop} {H' : List Fam} {v' : T} {N : Nat} (hk : K v' H') (hN : H.length = N := by (try simp only [↓List.length_cons, ↓List.length_nil, Nat.reduceAdd]) <;> rfl) (h : givesF σ N H σ h' = some H' := by (try simp (maxSteps := 1000000) only [givesF, setF, updF, Fam.zeroth, Fam.rk, Ck.rk, C.rk, E.rk, T.rk, key, List.map_cons, List.map_nil, List.cons_append, List.nil_append, List.length_cons, List.length_nil, Option.map_some, Option.bind_some, Nat.reduceAdd, Nat.zero_add, Nat.add_zero, Nat.add_sub_cancel_left, Int.toNat_natCast, reps, List.all_cons, List.all_nil, C.flat, List.append_eq, Bool.not_true, Bool.and_true, Bool.or_false, Bool.or_self, Bool.not_false, List.append_nil, Bool.and_self, ↓mtG_rk, ↓winO_rk, encG]) <;> rfl) (hv : v.rk σ N = v' := by (try simp only [givesF, setF, updF, Fam.zeroth, Fam.rk, Ck.rk, C.rk, E.rk, T.rk, key, List.map_cons, List.map_nil, List.cons_append, List.nil_append, List.length_cons, List.length_nil, Option.map_some, Option.bind_some, Nat.reduceAdd, Nat.zero_add, Nat.add_zero, Nat.add_sub_cancel_left, Int.toNat_natCast, reps, List.all_cons, List.all_nil, C.flat, List.append_eq, Bool.not_true, Bool.and_true, Bool.or_false, Bool.or_self, Bool.not_false, List.append_nil, Bool.and_self, ↓mtG_rk, ↓winO_rk, encG]) <;> rfl) : RetG σ H h' v K := ret_mk3 hN h hv hk
theorem cH15sA3 {P : Program} {F : Nat} {args : List T} {H : List Fam} {K : T → List Fam → Prop} {σ : List Sg} {nl : List Fam} {args0 : List T} {h0 : List Fam} {Q : T → List Fam → Prop} {H2 H1 : List Fam} {N n : Nat} (hc : Ctr P F args0 h0 Q) (hk : ∀ v h', Q v h' → capsP h' → RetG σ H2 h' v K) (hap : apart σ = true := by rfl) (hnl : nl.all nilB = true := by rfl) (h1 : H ++ nl = H1 := by first | exact List.append_nil _ | ((try simp only [List.cons_append, List.nil_append]) <;> rfl)) (hN : H1.length = N := by (try simp only [↓List.length_cons, ↓List.length_nil, Nat.reduceAdd]) <;> rfl) (hn : H.length = n := by (try simp only [↓List.length_cons, ↓List.length_nil, Nat.reduceAdd]) <;> rfl) (hH : givesF σ N H1 σ h0 = some H2 := by (try simp (maxSteps := 1000000) only [givesF, setF, updF, Fam.zeroth, Fam.rk, Ck.rk, C.rk, E.rk, T.rk, key, List.map_cons, List.map_nil, List.cons_append, List.nil_append, List.length_cons, List.length_nil, Option.map_some, Option.bind_some, Nat.reduceAdd, Nat.zero_add, Nat.add_zero, Nat.add_sub_cancel_left, Int.toNat_natCast, reps, List.all_cons, List.all_nil, C.flat, List.append_eq, Bool.not_true, Bool.and_true, Bool.or_false, Bool.or_self, Bool.not_false, List.append_nil, Bool.and_self, ↓mtG_rk, ↓winO_rk]) <;> rfl) (hle : leS n H1 σ N σ h0 (belsK N (h0.map (Fam.rk σ N)) (argsK n args (args0.map (T.rk σ N)) True)) := by repeat' first | refine And.intro ?_ ?_ | exact xeC | fail) : CallK P F args H K := CallK.mk3 hc hap hnl h1 hN hn hH hle hk
set_option maxRecDepth 10000 in
theorem cawake : Ctr Try.prog 10 [] [] fun v h => v = .c .tt ∧ h = [] := by
  refine Ctr.mk' tbv mixed Try.func10 rfl rfl rfl (fun _ _ => by kernel_rfl) (by kernel_rfl) (by rfl) (by rfl) (by (repeat' first | refine And.intro ?_ ?_ | exact xeC | fail) <;> (exact xmC)) ?_
  repeat' (first | (fail_if_success (with_reducible refine xstp ?_)); first | (with_reducible intro hc; (try simp only [capsP, and_true] at hc); (try exact xfC)) | ((fail_if_success (with_reducible first | refine xgon ?_ | intro _)); (conv => whnf); (fail_if_success (fail_if_success (with_reducible first | refine xstp ?_ | refine xgon ?_ | intro _)))))
  refine cH15sA3 (σ := [.whole 0]) (nl := [.one (ints true noI 0)]) (cEncode aw true 0 (by decide) (by decide)) ?_
  rintro v h' ⟨rfl, rfl⟩ hcaps
  rw [show chk aw = 0 by decide, if_pos rfl, show encL aw = [4, 0, 1, 2, 3, 0, 1, 4, 0] by decide]
  refine rH15sA0 ?_
  repeat' (first | (fail_if_success (with_reducible refine xstp ?_)); first | ((fail_if_success (with_reducible first | refine xgon ?_ | intro _)); (conv => whnf); (fail_if_success (fail_if_success (with_reducible first | refine xstp ?_ | refine xgon ?_ | intro _)))))
  refine cH15sA3 (σ := []) (nl := []) (cNewA 2) ?_
  rintro v h' ⟨rfl, rfl⟩ hcaps
  refine rH15sA1 ?_
  repeat' (first | (fail_if_success (with_reducible refine xstp ?_)); first | ((with_reducible refine And.intro (fun (hb : _ = true) => ?_) (fun (hb : _ = false) => ?_)) <;> replace hb := xnC hb <;> (try first | exact xfC | exact bff hb (by assumption) | exact bff (by assumption) hb)) | ((fail_if_success (with_reducible first | refine xgon ?_ | intro _)); (conv => whnf); (fail_if_success (fail_if_success (with_reducible first | refine xstp ?_ | refine xgon ?_ | intro _)))))
  refine cH15sA3 (σ := [.whole 1, .whole 2, .whole 3, .whole 4, .whole 5]) (nl := []) (cAdd (max 1 (min 256 2)) 0 [] [] [] 0 0 1 ⟨5, 0, 1, [97, 98]⟩ (aok0 (by decide) (by decide))) ?_ (hle := by (repeat' first | refine And.intro ?_ ?_ | exact xeC | fail) <;> (exact xmC))
  rintro v h' ⟨J', c', cd', _, _, rfl, rfl⟩ hcaps
  rw [show addA (max 1 (min 256 2)) 0 [] [] 1 ⟨5, 0, 1, [97, 98]⟩ = ([], [(1, 5)], [97, 98], true, 0) by simp [addA, okF, fnd, remD, cntD]]
  refine rH15sA2 ?_
  repeat' (first | (fail_if_success (with_reducible refine xstp ?_)); first | ((with_reducible refine And.intro (fun (hb : _ = true) => ?_) (fun (hb : _ = false) => ?_)) <;> replace hb := xnC hb <;> (try first | exact xfC | exact bff hb (by assumption) | exact bff (by assumption) hb)) | ((fail_if_success (with_reducible first | refine xgon ?_ | intro _)); (conv => whnf); (fail_if_success (fail_if_success (with_reducible first | refine xstp ?_ | refine xgon ?_ | intro _)))))
  refine FinK.mk ⟨[], _, _, ⟨rfl, rfl⟩, ?_⟩; (repeat' first | refine And.intro ?_ ?_ | exact xeC | fail)
end Go.Proofs.Ytgaodeffbgppmaa


namespace Go.Proofs.Ytgaodeffbgppmaa
open Go.X
open P4
open P5
abbrev rem (s : ByteArray) (a : Nat) : List UInt8 := s.data.toList.drop a
end Go.Proofs.Ytgaodeffbgppmaa


namespace Go.Proofs.Ytgaodeffbgppmaa
open Go.X
open P4
open P5
end Go.Proofs.Ytgaodeffbgppmaa


namespace Go.Proofs.Ytgaodeffbgppmaa
open Go.X
open P4
open P5
end Go.Proofs.Ytgaodeffbgppmaa


namespace Go.Proofs.Ytgaodeffbgppmaa
open Go.X
set_option linter.unusedSimpArgs false
set_option linter.unusedVariables false
open P4
open P5
end Go.Proofs.Ytgaodeffbgppmaa


namespace Go.Proofs.Ytgaodeffbgppmaa
open Go.X
set_option linter.unusedSimpArgs false
set_option linter.unusedVariables false
open P4
open P5
end Go.Proofs.Ytgaodeffbgppmaa


namespace Go.Proofs.Ytgaodeffbgppmaa
open Go.X Go.RowKit
set_option linter.unusedVariables false
theorem one_read {β : Nm} {W : World} {ck : Ck} (h : ck.holds β W (β 0 0)) (ho : ck.owned = false) : Fits β [.one ck] W ∧ ∀ f x, (Go.X.get [.one ck] f x).owned = false := by
  have hno := get_ones_own (h := [ck]) (by intro q hq; rw [List.mem_singleton.1 hq]; exact ho)
  exact ⟨fits_read (get_ones (h := [ck]) (fun f q hf => by
    match f, hf with
    | 0, hf => cases hf; exact h
    | f + 1, hf => simp at hf)) hno, hno⟩
end Go.Proofs.Ytgaodeffbgppmaa


namespace Go.Proofs.Ytgaodeffbgppmaa
open Go.X
set_option linter.unusedSimpArgs false
set_option linter.unusedVariables false
open P4
open P5
abbrev fgR (l : List Fg) (c : Nat) : Ck := .row true false 34 4 l.length c (rowOf encG l)
def part (id : Int) (l : List UInt8) (z n i : Nat) : Fg := ⟨id, i, n, (l.drop (i * z)).take z⟩
def parts (id : Int) (l : List UInt8) (z n k : Nat) : List Fg := (List.range k).map (part id l z n)
def okS (id size : Int) : Prop := (0 ≤ id ∧ id ≤ 1099511627776) ∧ (1 ≤ size ∧ size ≤ 4000)
instance (id size : Int) : Decidable (okS id size) := by unfold okS; infer_instance
end Go.Proofs.Ytgaodeffbgppmaa


namespace Go.Proofs.Ytgaodeffbgppmaa
open Go.X
set_option linter.unusedVariables false
set_option linter.unusedSimpArgs false
theorem remD_len (dn : List (Int × Int)) (p : Int × Int) : (remD dn p).length ≤ dn.length + 1 := by
  unfold remD
  rw [List.length_append, List.length_singleton]
  split
  · have := List.length_eraseP_le (l := dn) (p := fun q => decide (q.1 = p.1))
    omega
  · exact Nat.le_refl _
theorem AOk.mono {mo : Int} {N : Nat} {J J' : List Nat} {L : List Tx} {dn : List (Int × Int)} (h : AOk mo N J L dn) (hJ : ∀ j ∈ J', j < N + 1) (hl : J'.length ≤ 1) : AOk mo (N + 1) J' L dn :=
  ⟨h.mo1, h.mo2, h.len, h.dn, h.nd, fun t ht => Nat.lt_succ_of_lt (h.idN t ht), hJ, hl, h.ct, h.mlen, h.dat, h.ix, h.key⟩
theorem AOk.sub {mo : Int} {N : Nat} {J : List Nat} {L L' : List Tx} {dn dn' : List (Int × Int)} (h : AOk mo N J L dn) (hs : L'.Sublist L) (hd : dn'.length ≤ 1000000) : AOk mo N J L' dn' :=
  ⟨h.mo1, h.mo2, by have := h.len; have := hs.length_le; omega, hd, List.Nodup.sublist (hs.map Tx.id) h.nd, fun t ht => h.idN t (hs.subset ht), h.jN, h.jl, fun t ht => h.ct t (hs.subset ht), fun t ht => h.mlen t (hs.subset ht), fun t ht => h.dat t (hs.subset ht), fun t ht => h.ix t (hs.subset ht), fun t ht => h.key t (hs.subset ht)⟩
theorem cutL_sub (L : List Tx) (k : Nat) : (cutL L k).Sublist L := by
  unfold cutL
  conv => rhs; rw [← List.take_append_drop k L]
  exact List.Sublist.append_left (by rw [show k + 1 = k + 1 from rfl, ← List.drop_drop]; exact List.drop_sublist _ _) _
theorem AOk.ins {mo : Int} {N : Nat} {J : List Nat} {L : List Tx} {dn : List (Int × Int)} (h : AOk mo N J L dn) {k : Nat} {f : Fg} (hk : k < L.length) (hf : okF f) (hct : (L.getD k default).ct = f.ct) (hno : pget (L.getD k default).M f.ix = none) (hm : ((L.getD k default).M.length : Int) + 1 < f.ct) :
    AOk mo N J (L.set k (insT (L.getD k default) f)) dn := by
  have ht : L.getD k default ∈ L := by rw [getD_at hk]; exact List.getElem_mem _
  have hfk := hf
  unfold okF at hfk
  have hno' : ∀ i, i < (L.getD k default).M.length → ((L.getD k default).M.getD i default).2.1 ≠ f.ix := by
    intro i hi e
    unfold pget at hno
    have h1 : (L.getD k default).M.find? (fun e => e.2.1 == f.ix) = none := by
      cases hq : (L.getD k default).M.find? (fun e => e.2.1 == f.ix) with
      | none => rfl
      | some q => rw [hq] at hno; cases hno
    rw [List.find?_eq_none] at h1
    have := h1 _ (by rw [getD_at hi]; exact List.getElem_mem _ : (L.getD k default).M.getD i default ∈ (L.getD k default).M)
    rw [e] at this
    simp at this
  have hmem : ∀ t ∈ L.set k (insT (L.getD k default) f), t ∈ L ∨ t = insT (L.getD k default) f := fun t ht => List.mem_or_eq_of_mem_set ht
  refine ⟨h.mo1, h.mo2, by rw [List.length_set]; exact h.len, h.dn, by rw [idsOf_set hk]; exact h.nd, fun t ht' => ?_, h.jN, h.jl, fun t ht' => ?_, fun t ht' => ?_, fun t ht' => ?_, fun t ht' => ?_, fun t ht' => ?_⟩
  · rcases hmem t ht' with h1 | rfl
    · exact h.idN t h1
    · exact h.idN (L.getD k default) ht
  · rcases hmem t ht' with h1 | rfl
    · exact h.ct t h1
    · exact h.ct (L.getD k default) ht
  · rcases hmem t ht' with h1 | rfl
    · exact h.mlen t h1
    · show ((((L.getD k default).M ++ [((L.getD k default).ck, f.ix, f.d)]).length : Nat) : Int) < (L.getD k default).ct
      rw [List.length_append, List.length_singleton]
      omega
  · rcases hmem t ht' with h1 | rfl
    · exact h.dat t h1
    · intro e he
      rcases List.mem_append.1 he with he | he
      · exact h.dat _ ht e he
      · rw [List.mem_singleton.1 he]; exact hfk.2.2.2
  · rcases hmem t ht' with h1 | rfl
    · exact h.ix t h1
    · intro e he
      rcases List.mem_append.1 he with he | he
      · exact h.ix _ ht e he
      · rw [List.mem_singleton.1 he]
        show 0 ≤ f.ix ∧ f.ix < (L.getD k default).ct
        omega
  · rcases hmem t ht' with h1 | rfl
    · exact h.key t h1
    · exact key_snoc (h.key _ ht) hno'
theorem AOk.new {mo : Int} {N : Nat} {J J' : List Nat} {L : List Tx} {dn : List (Int × Int)} (h : AOk mo N J L dn) {fr : Int} {f : Fg} (hf : okF f) (hct : 1 < f.ct) (hL : (L.length : Int) + 1 ≤ mo) (hJ : ∀ j ∈ J', j < N + 1) (hl : J'.length ≤ 1) :
    AOk mo (N + 1) J' (L ++ [newT N fr f]) dn := by
  have hfk := hf
  unfold okF at hfk
  have hmem : ∀ t ∈ L ++ [newT N fr f], t ∈ L ∨ t = newT N fr f := fun t ht => by
    rcases List.mem_append.1 ht with h | h
    · exact Or.inl h
    · exact Or.inr (List.mem_singleton.1 h)
  refine ⟨h.mo1, h.mo2, by rw [List.length_append, List.length_singleton]; omega, h.dn, ?_, fun t ht' => ?_, hJ, hl, fun t ht' => ?_, fun t ht' => ?_, fun t ht' => ?_, fun t ht' => ?_, fun t ht' => ?_⟩
  · unfold idsOf
    rw [List.map_append, List.nodup_append]
    refine ⟨h.nd, by simp, fun a ha b hb => ?_⟩
    obtain ⟨t, ht, rfl⟩ := List.mem_map.1 ha
    have := h.idN t ht
    simp [newT] at hb
    omega
  · rcases hmem t ht' with h1 | rfl
    · exact Nat.lt_succ_of_lt (h.idN t h1)
    · exact Nat.lt_succ_self N
  · rcases hmem t ht' with h1 | rfl
    · exact h.ct t h1
    · exact hfk.2.1
  · rcases hmem t ht' with h1 | rfl
    · exact h.mlen t h1
    · exact hct
  · rcases hmem t ht' with h1 | rfl
    · exact h.dat t h1
    · intro e he
      rw [List.mem_singleton.1 he]; exact hfk.2.2.2
  · rcases hmem t ht' with h1 | rfl
    · exact h.ix t h1
    · intro e he
      rw [List.mem_singleton.1 he]
      exact hfk.2.2.1
  · rcases hmem t ht' with h1 | rfl
    · exact h.key t h1
    · intro i j hij hj
      simp [newT] at hj
      omega
theorem addA_ok {mo : Int} {N : Nat} {J J' : List Nat} {L : List Tx} {dn : List (Int × Int)} (h : AOk mo N J L dn) (fr : Int) (f : Fg) (hd : dn.length < 1000000) (hJ : ∀ j ∈ J', j < N + 1) (hl : J'.length ≤ 1) :
    AOk mo (N + 1) J' (addA mo N L dn fr f).1 (addA mo N L dn fr f).2.1 := by
  by_cases hok : (0 ≤ fr ∧ fr ≤ 7) ∧ okF f
  · rcases (by cases fnd L (fr, f.id) <;> simp : (∃ k, fnd L (fr, f.id) = some k) ∨ fnd L (fr, f.id) = none) with ⟨k, hf⟩ | hf
    · rw [addA_some hok hf]
      have hk := fnd_lt hf
      split
      · exact h.mono hJ hl
      rename_i hct
      split
      · split <;> exact h.mono hJ hl
      · rename_i hno
        split
        · rename_i hm
          exact (h.ins hk hok.2 (by simpa using hct) hno hm).mono hJ hl
        · have := remD_len dn (fr, f.id)
          exact (h.sub (cutL_sub L k) (by simp only; omega)).mono hJ hl
    · rw [addA_none hok hf]
      split
      · exact h.mono hJ hl
      split
      · rename_i hct
        have hlen := h.len
        by_cases hm : mo < L.length + 1
        · simp only [if_pos hm]
          have h1 := h.sub (L' := L.drop 1) (dn' := dn) (List.drop_sublist _ _) h.dn
          exact h1.new hok.2 hct (by rw [List.length_drop]; have := h.mo1; omega) hJ hl
        · simp only [if_neg hm]
          exact h.new hok.2 hct (by omega) hJ hl
      · have := remD_len dn (fr, f.id)
        exact (h.sub (List.Sublist.refl L) (by simp only; omega)).mono hJ hl
  · have : addA mo N L dn fr f = (L, dn, [], false, 4) := by unfold addA; rw [if_pos hok]
    rw [this]
    exact h.mono hJ hl
end Go.Proofs.Ytgaodeffbgppmaa


namespace Go.Proofs.Ytgaodeffbgppmaa
open Go.X
set_option linter.unusedVariables false
/-- An incomplete string, as both have it: the sender, the number, how many fragments, those that came. -/
structure Ab where
  (fr i ct : Int) (H : List (Int × List UInt8))
deriving Inhabited, DecidableEq
def abT (t : Tx) : Ab := ⟨t.fr, t.i, t.ct, t.M.map fun e => (e.2.1, e.2.2)⟩
def fndB (A : List Ab) (p : Int × Int) : Option Nat := A.findIdx? fun t => decide (t.fr = p.1 ∧ t.i = p.2)
def getB8 (H : List (Int × List UInt8)) (ix : Int) : Option (List UInt8) := (H.find? fun e => e.1 == ix).map fun e => e.2
def outB (H : List (Int × List UInt8)) (n : Nat) : List UInt8 := (List.range n).flatMap fun i => (H.filter fun (e : Int × List UInt8) => decide (e.1 = ((i : Nat) : Int))).flatMap fun e => e.2
def last64 (D : List (Int × Int)) (f : Int) : List (Int × Int) := (D.filter fun q => decide (q.1 = f)).drop ((D.filter fun q => decide (q.1 = f)).length - 64)
abbrev BR := List Ab × List (Int × Int) × List UInt8 × Bool × Nat
def addB (mo : Int) (A : List Ab) (D : List (Int × Int)) (fr : Int) (f : Fg) : BR :=
  if ¬ ((0 ≤ fr ∧ fr ≤ 7) ∧ okF f) then (A, D, [], false, 4)
  else match fndB A (fr, f.id) with
  | some k =>
    if (A.getD k default).ct ≠ f.ct then (A, D, [], false, 2)
    else match getB8 (A.getD k default).H f.ix with
    | some d => if d ≠ f.d then (A, D, [], false, 2) else (A, D, [], false, 0)
    | none =>
      if ((A.getD k default).H.length : Int) + 1 < f.ct then (A.set k ⟨(A.getD k default).fr, (A.getD k default).i, (A.getD k default).ct, (A.getD k default).H ++ [(f.ix, f.d)]⟩, D, [], false, 0)
      else (A.take k ++ A.drop (k + 1), D ++ [(fr, f.id)], outB ((A.getD k default).H ++ [(f.ix, f.d)]) f.ct.toNat, true, 0)
  | none =>
    if (fr, f.id) ∈ last64 D fr then (A, D, [], false, 0)
    else if 1 < f.ct then ((if mo ≤ A.length then A.drop 1 else A) ++ [⟨fr, f.id, f.ct, [(f.ix, f.d)]⟩], D, [], false, 0)
    else (A, D ++ [(fr, f.id)], f.d, true, 0)
/-- What is remembered: of each sender the last 64. -/
def DRel (dn D : List (Int × Int)) : Prop := ∀ f, dn.filter (fun q => decide (q.1 = f)) = last64 D f
theorem drel_nil : DRel [] [] := fun f => rfl
theorem last64_snoc (D : List (Int × Int)) (p : Int × Int) (f : Int) : last64 (D ++ [p]) f = if p.1 = f then (if 64 ≤ (last64 D f).length then (last64 D f).drop 1 else last64 D f) ++ [p] else last64 D f := by
  unfold last64
  rw [List.filter_append]
  by_cases h : p.1 = f
  · rw [if_pos h, show ([p].filter fun q => decide (q.1 = f)) = [p] by simp [h]]
    generalize D.filter (fun q => decide (q.1 = f)) = F
    rw [List.length_append, List.length_singleton, List.length_drop]
    by_cases h6 : 64 ≤ F.length
    · rw [if_pos (by omega), List.drop_drop, show F.length + 1 - 64 = F.length - 64 + 1 by omega, List.drop_append_of_le_length (by omega)]
    · rw [if_neg (by omega), show F.length + 1 - 64 = 0 by omega, show F.length - 64 = 0 by omega]
      simp
  · rw [if_neg h, show ([p].filter fun q => decide (q.1 = f)) = [] by simp [h], List.append_nil]
theorem filt_eraseP (dn : List (Int × Int)) (f g : Int) : (dn.eraseP fun q => decide (q.1 = f)).filter (fun q => decide (q.1 = g)) = if f = g then (dn.filter fun q => decide (q.1 = g)).drop 1 else dn.filter fun q => decide (q.1 = g) := by
  induction dn with
  | nil => simp
  | cons a l ih =>
    by_cases h : a.1 = f
    · rw [List.eraseP_cons_of_pos (by simpa using h)]
      by_cases hg : f = g
      · rw [if_pos hg, List.filter_cons_of_pos (by simp [h, hg])]
        rfl
      · rw [if_neg hg, List.filter_cons_of_neg (by simp only [decide_eq_true_eq]; rw [h]; exact hg)]
    · rw [List.eraseP_cons_of_neg (by simpa using h)]
      by_cases hg : a.1 = g
      · rw [List.filter_cons_of_pos (by simpa using hg), List.filter_cons_of_pos (by simpa using hg), ih, if_neg (fun e => h (by rw [hg, e])), if_neg (fun e => h (by rw [hg, e]))]
      · rw [List.filter_cons_of_neg (by simpa using hg), List.filter_cons_of_neg (by simpa using hg), ih]
theorem DRel.rem {dn D : List (Int × Int)} (h : DRel dn D) (p : Int × Int) : DRel (remD dn p) (D ++ [p]) := by
  intro f
  have hc : cntD dn p.1 = (last64 D p.1).length := by rw [← h p.1, cntD, List.countP_eq_length_filter]
  unfold remD
  rw [List.filter_append, last64_snoc, hc]
  by_cases hf : p.1 = f
  · rw [if_pos hf, show ([p].filter fun q => decide (q.1 = f)) = [p] by simp [hf]]
    congr 1
    subst hf
    split
    · rw [filt_eraseP, if_pos rfl, h]
    · exact h _
  · rw [if_neg hf, show ([p].filter fun q => decide (q.1 = f)) = [] by simp [hf], List.append_nil]
    split
    · rw [filt_eraseP, if_neg hf, h]
    · exact h _
theorem DRel.mem {dn D : List (Int × Int)} (h : DRel dn D) (p : Int × Int) : p ∈ dn ↔ p ∈ last64 D p.1 := by
  rw [← h p.1, List.mem_filter]
  simp
theorem fnd_ab (L : List Tx) (p : Int × Int) : fndB (L.map abT) p = fnd L p := by
  unfold fndB fnd
  rw [List.findIdx?_map]
  rfl
theorem getD_ab {L : List Tx} {k : Nat} (h : k < L.length) : (L.map abT).getD k default = abT (L.getD k default) := by
  rw [getD_at (by simpa using h), getD_at h]
  simp
theorem get_ab (t : Tx) (ix : Int) : getB8 (abT t).H ix = pget t.M ix := by
  unfold getB8 pget abT
  simp only [List.find?_map, Option.map_map]
  rfl
theorem outB_S {H : List (Nat × Int × List UInt8)} (hk : ∀ i j, i < j → j < H.length → (H.getD i default).2.1 ≠ (H.getD j default).2.1) (ct : Int) (n : Nat) : outB (H.map fun e => (e.2.1, e.2.2)) n = outS ct H n := by
  unfold outB outS
  congr 1
  funext i
  have key : ∀ (H : List (Nat × Int × List UInt8)), (H.map fun e => e.2.1).Nodup → ((H.map fun e => (e.2.1, e.2.2)).filter fun (e : Int × List UInt8) => decide (e.1 = ((i : Nat) : Int))).flatMap (fun e => e.2) = (pget H (i : Nat)).getD [] := by
    intro H
    induction H with
    | nil => intro _; rfl
    | cons a l ih =>
      intro hn
      have hn' := List.nodup_cons.1 hn
      rw [List.map_cons]
      unfold pget
      rw [List.find?_cons]
      by_cases h : a.2.1 = (i : Nat)
      · rw [List.filter_cons_of_pos (by simpa using h), show (a.2.1 == (i : Int)) = true by simpa using h]
        have h0 : ((l.map fun e => (e.2.1, e.2.2)).filter fun e => decide (e.1 = ((i : Nat) : Int))) = [] := by
          rw [List.filter_eq_nil_iff]
          intro e he
          obtain ⟨q, hq, rfl⟩ := List.mem_map.1 he
          intro hd
          have hd : q.2.1 = (i : Nat) := by simpa using hd
          exact hn'.1 (List.mem_map.2 ⟨q, hq, hd.trans h.symm⟩)
        rw [List.flatMap_cons, h0]
        simp
      · rw [List.filter_cons_of_neg (by simpa using h), show (a.2.1 == (i : Int)) = false by simpa using h]
        exact ih hn'.2
  refine key H ?_
  rw [List.Nodup, List.pairwise_map, List.pairwise_iff_getElem]
  intro a b ha hb hab
  have := hk a b hab hb
  rwa [getD_at ha, getD_at hb] at this
theorem add_rel {mo : Int} {N : Nat} {J : List Nat} {L : List Tx} {dn D : List (Int × Int)} (hA : AOk mo N J L dn) (hD : DRel dn D) (fr : Int) (f : Fg) :
    (addA mo N L dn fr f).1.map abT = (addB mo (L.map abT) D fr f).1 ∧ DRel (addA mo N L dn fr f).2.1 (addB mo (L.map abT) D fr f).2.1 ∧ (addA mo N L dn fr f).2.2 = (addB mo (L.map abT) D fr f).2.2 := by
  by_cases hok : (0 ≤ fr ∧ fr ≤ 7) ∧ okF f
  · unfold addB
    rw [if_neg (fun q => q hok), fnd_ab]
    cases hf : fnd L (fr, f.id) with
    | some k =>
      have hk := fnd_lt hf
      have ht : L.getD k default ∈ L := by rw [getD_at hk]; exact List.getElem_mem _
      rw [addA_some hok hf]
      simp only [getD_ab hk, get_ab]
      have hct : (abT (L.getD k default)).ct = (L.getD k default).ct := rfl
      have hHl : (abT (L.getD k default)).H.length = (L.getD k default).M.length := List.length_map _
      rw [hct]
      split
      · exact ⟨rfl, hD, rfl⟩
      rename_i hc
      have hc : (L.getD k default).ct = f.ct := by simpa using hc
      cases hp : pget (L.getD k default).M f.ix with
      | some d =>
        simp only
        split
        · exact ⟨rfl, hD, rfl⟩
        · exact ⟨rfl, hD, rfl⟩
      | none =>
        simp only [hHl]
        have hab : abT (insT (L.getD k default) f) = ⟨(abT (L.getD k default)).fr, (abT (L.getD k default)).i, (L.getD k default).ct, (abT (L.getD k default)).H ++ [(f.ix, f.d)]⟩ := by
          simp [abT, insT]
        split
        · refine ⟨?_, hD, rfl⟩
          simp only [List.map_set, hab]
        · rename_i hlt
          refine ⟨?_, hD.rem _, ?_⟩
          · simp only [cutL, List.map_append, List.map_take, List.map_drop]
          · have hno' : ∀ i, i < (L.getD k default).M.length → ((L.getD k default).M.getD i default).2.1 ≠ f.ix := by
              intro i hi e
              have := pget_at (hA.key _ ht) hi e
              rw [hp] at this
              cases this
            have hks : ∀ i j, i < j → j < (insT (L.getD k default) f).M.length → ((insT (L.getD k default) f).M.getD i default).2.1 ≠ ((insT (L.getD k default) f).M.getD j default).2.1 := key_snoc (hA.key _ ht) hno'
            have := outB_S hks f.ct f.ct.toNat
            simp only
            rw [← this]
            simp [insT, abT]
    | none =>
      rw [addA_none hok hf]
      simp only [hD.mem (fr, f.id), List.length_map]
      split
      · exact ⟨rfl, hD, rfl⟩
      split
      · refine ⟨?_, hD, rfl⟩
        simp only [List.map_append, List.map_cons, List.map_nil]
        by_cases hm : mo ≤ L.length
        · rw [if_pos (show mo < (L.length : Int) + 1 by omega), if_pos hm, List.map_drop]
          rfl
        · rw [if_neg (show ¬ mo < (L.length : Int) + 1 by omega), if_neg hm]
          rfl
      · exact ⟨rfl, hD.rem _, rfl⟩
  · have h1 : addA mo N L dn fr f = (L, dn, [], false, 4) := by unfold addA; rw [if_pos hok]
    have h2 : addB mo (L.map abT) D fr f = (L.map abT, D, [], false, 4) := by unfold addB; rw [if_pos hok]
    rw [h1, h2]
    exact ⟨rfl, hD, rfl⟩
theorem addB_len (mo : Int) (A : List Ab) (D : List (Int × Int)) (fr : Int) (f : Fg) : (addB mo A D fr f).2.1.length ≤ D.length + 1 := by
  unfold addB
  repeat' first | split | (simp only [List.length_append, List.length_singleton]; omega)
end Go.Proofs.Ytgaodeffbgppmaa


namespace Go.Proofs.Ytgaodeffbgppmaa
open Go.X
set_option linter.unusedSimpArgs false
set_option linter.unusedVariables false
/-- An incomplete string of the reference: its fragments lie in member x. -/
structure Pr where
  (fr i ct : Int) (H : List Fg) (x c : Nat)
deriving Inhabited
def abP (p : Pr) : Ab := ⟨p.fr, p.i, p.ct, p.H.map fun g => (g.ix, g.d)⟩
def encPr (nm : Nat → Nat × Nat) (p : Pr) : List C := [.i .i64 p.fr, .i .i64 p.i, .i .i64 p.ct, .sl (nm p.x).1 (nm p.x).2 4 0 p.H.length p.c]
abbrev prtR (nm : Nat → Nat × Nat) (L : List Pr) (c : Nat) : Ck := .row true true 97 4 L.length c (rowOf (encPr nm) L)
def encD (p : Int × Int) : List C := [.i .i64 p.1, .i .i64 p.2, .i .i64 0, .nils]
abbrev dnR (D : List (Int × Int)) (c : Nat) : Ck := .row true true 97 4 D.length c (rowOf encD D)
abbrev asr (mo : Int) (f g : Nat) (n c nd cd : Nat) : Ck := .cells true [.i .i64 mo, .sl f 0 4 0 n c, .sl g 0 4 0 nd cd]
def hasC (p : Pr) : Ck := fgR p.H p.c
abbrev hasG (L : List Pr) (x : Nat) : Ck := nmG Pr.x hasC L x
theorem hasFR : FlatR hasC := fun _ => ⟨_, _, _, _, _, _, rfl⟩
theorem map_rk_P (σ : List Sg) (N : Nat) (nm : Nat → Nat × Nat) (L : List Pr) (i : Nat) : List.map (C.rk σ N) (rowOf (encPr nm) L i) = rowOf (encPr fun x => key σ N (nm x).1 (nm x).2) L i := rfl
theorem encPr_bel {n : Nat} {nm : Nat → Nat × Nat} (h : ∀ x, Nat.blt (nm x).1 n = true) (p : Pr) : (encPr nm p).all (C.belB n) = true := by
  simp [encPr, C.belB, h]
def fndR (L : List Pr) (p : Int × Int) : Option Nat := L.findIdx? fun t => decide (t.fr = p.1 ∧ t.i = p.2)
def idxR (o : Option Nat) : Int := match o with | none => -1 | some k => (k : Nat)
theorem fnd_abP (L : List Pr) (p : Int × Int) : fndB (L.map abP) p = fndR L p := by
  unfold fndB fndR
  rw [List.findIdx?_map]
  rfl
theorem getD_abP {L : List Pr} {k : Nat} (h : k < L.length) : (L.map abP).getD k default = abP (L.getD k default) := by
  rw [getD_at (by simpa using h), getD_at h]
  simp
theorem fndR_at {L : List Pr} {p : Int × Int} {i : Nat} (hi : i < L.length) (h : (L.getD i default).fr = p.1 ∧ (L.getD i default).i = p.2) (hno : ∀ j, j < i → ¬ ((L.getD j default).fr = p.1 ∧ (L.getD j default).i = p.2)) : fndR L p = some i := by
  unfold fndR
  rw [List.findIdx?_eq_some_iff_getElem]
  refine ⟨hi, ?_, fun j hj => ?_⟩
  · rw [getD_at hi] at h; exact decide_eq_true h
  · have := hno j hj
    rw [getD_at (by omega)] at this
    simp only [decide_eq_true_eq]
    exact this
theorem fndR_no {L : List Pr} {p : Int × Int} (hno : ∀ j, j < L.length → ¬ ((L.getD j default).fr = p.1 ∧ (L.getD j default).i = p.2)) : fndR L p = none := by
  unfold fndR
  rw [List.findIdx?_eq_none_iff]
  intro t ht
  obtain ⟨j, hj, rfl⟩ := List.mem_iff_getElem.1 ht
  have := hno j hj
  rw [getD_at hj] at this
  exact decide_eq_false this
theorem fndR_lt {L : List Pr} {p : Int × Int} {k : Nat} (h : fndR L p = some k) : k < L.length := by
  unfold fndR at h
  rw [List.findIdx?_eq_some_iff_getElem] at h
  exact h.1
abbrev nm3 (x : Nat) : Nat × Nat := (3, x)
def nmK (y x : Nat) : Nat × Nat := if x = y then (4, 0) else (3, x)
theorem rowK_idr (y : Nat) (r : List Sg) (L : List Pr) (i : Nat) : rowOf (encPr (nmK y)) L i = List.map (C.rk (0 :: 1 :: 2 :: 3 :: 4 :: r) 0) (rowOf (encPr (nmK y)) L i) := by
  have h : ∀ x, key (0 :: 1 :: 2 :: 3 :: 4 :: r) 0 (nmK y x).1 (nmK y x).2 = nmK y x := fun x => by
    unfold nmK
    split <;> rfl
  rw [map_rk_P]
  simp only [h]
theorem encK_bel {n : Nat} (h : Nat.blt 4 n = true) (y : Nat) (p : Pr) : (encPr (nmK y) p).all (C.belB n) = true := by
  have h3 : Nat.blt 3 n = true := by
    rw [Nat.blt_eq] at h ⊢; omega
  refine encPr_bel (fun x => ?_) p
  unfold nmK
  split
  · exact h
  · exact h3
set_option maxRecDepth 10000 in
theorem cplace (mo : Int) (L : List Pr) (c nd cd : Nat) (p : Int × Int) (hL : L.length ≤ 1000000) :
    Ctr Try.prog 39 [.c (.p 0 0 0), .c (.i .i64 p.1), .c (.i .i64 p.2)] [.one (asr mo 1 2 L.length c nd cd), .one (prtR nm3 L c), .one .no, .one .no]
      fun v h => v = .c (.i .i64 (idxR (fndR L p))) ∧ h = [.one (asr mo 1 2 L.length c nd cd), .one (prtR nm3 L c), .one .no, .one .no] := by
  refine Ctr.mk' tbv mixed Try.func39 rfl rfl rfl (fun _ _ => by kernel_rfl) (by kernel_rfl) (by rfl) (by rfl) (by (repeat' first | refine And.intro ?_ ?_ | exact xeC | fail) <;> exact fun i hi => rfl) ?_
  repeat' (first | (fail_if_success (with_reducible refine xstp ?_)); first | (with_reducible intro hc; (try simp only [capsP, and_true] at hc); (try exact xfC)) | ((fail_if_success (with_reducible first | refine xgon ?_ | intro _)); (conv => whnf); (fail_if_success (fail_if_success (with_reducible first | refine xstp ?_ | refine xgon ?_ | intro _)))))
  refine LoopK.mk' {i : Nat // i ≤ L.length ∧ ∀ j, j < i → ¬ ((L.getD j default).fr = p.1 ∧ (L.getD j default).i = p.2)}
    (fun ⟨i, _⟩ => ⟨[(0, .c (.p 0 0 0)), (1, .c (.i .i64 p.1)), (2, .c (.i .i64 p.2)), (7, .c (.i .i64 (i : Nat)))], [.one (asr mo 1 2 L.length c nd cd), .one (prtR nm3 L c), .one .no, .one .no]⟩) (fun k => L.length - k.1)
    ⟨⟨0, Nat.zero_le _, by intro j h; omega⟩, [0, 1, 2, 3], ?_⟩ ?_
  · (repeat' first | refine And.intro ?_ ?_ | exact xeC | fail)
    all_goals exact fun i hi => rfl
  rintro ⟨i, hi, hno⟩
  repeat' (first | (fail_if_success (with_reducible refine xstp ?_)); first | ((with_reducible refine And.intro (fun (hb : _ = true) => ?_) (fun (hb : _ = false) => ?_)) <;> replace hb := xnC hb <;> (try first | exact xfC | exact bff hb (by assumption) | exact bff (by assumption) hb)) | ((with_reducible refine And.intro ?_ ?_); focus exact xoC) | (with_reducible intro hc; (try simp only [capsP, and_true] at hc); (try exact xfC)) | ((fail_if_success (with_reducible first | refine xgon ?_ | intro _)); (conv => whnf); (fail_if_success (fail_if_success (with_reducible first | refine xstp ?_ | refine xgon ?_ | intro _)))))
  · rw [fndR_at (by omega) ⟨by assumption, by assumption⟩ hno]
    refine FinK.mk ⟨[0, 1, 2, 3], _, _, ⟨rfl, rfl⟩, ?_⟩
    (repeat' first | refine And.intro ?_ ?_ | exact xeC | fail)
    all_goals exact fun i hi => rfl
  · refine ⟨⟨i + 1, by omega, fun j hj => ?_⟩, [0, 1, 2, 3], by simp only; omega, ?_⟩
    · rcases (by omega : j < i ∨ j = i) with h | rfl
      · exact hno j h
      · exact fun h => hb h.2
    · (repeat' first | refine And.intro ?_ ?_ | exact xeC | fail)
      all_goals exact fun i hi => rfl
  · refine ⟨⟨i + 1, by omega, fun j hj => ?_⟩, [0, 1, 2, 3], by simp only; omega, ?_⟩
    · rcases (by omega : j < i ∨ j = i) with h | rfl
      · exact hno j h
      · exact fun h => hb h.1
    · (repeat' first | refine And.intro ?_ ?_ | exact xeC | fail)
      all_goals exact fun i hi => rfl
  · rw [fndR_no fun j hj => hno j (by omega)]
    refine FinK.mk ⟨[0, 1, 2, 3], _, _, ⟨rfl, rfl⟩, ?_⟩
    (repeat' first | refine And.intro ?_ ?_ | exact xeC | fail)
    all_goals exact fun i hi => rfl
theorem mem_last {A B : List (Int × Int)} {p : Int × Int} {f : Int} (hf : p.1 = f) (hB : (B.filter fun q => decide (q.1 = f)).length < 64) : p ∈ last64 (A ++ p :: B) f := by
  unfold last64
  rw [List.filter_append, List.filter_cons_of_pos (by simpa using hf)]
  generalize A.filter (fun q => decide (q.1 = f)) = FA
  generalize B.filter (fun q => decide (q.1 = f)) = FB at *
  rw [List.length_append, List.length_cons, List.drop_append_of_le_length (by omega)]
  exact List.mem_append.2 (.inr (List.mem_cons_self ..))
theorem not_last {A B : List (Int × Int)} {p : Int × Int} {f : Int} (hB : A = [] ∨ 64 ≤ (B.filter fun q => decide (q.1 = f)).length) (hno : p ∉ B) : p ∉ last64 (A ++ B) f := by
  unfold last64
  intro h
  rcases hB with rfl | hB
  · exact hno (List.mem_filter.1 (List.mem_of_mem_drop h)).1
  · rw [List.filter_append] at h
    have hsub : ∀ q ∈ B.filter (fun q => decide (q.1 = f)), q ∈ B := fun q hq => (List.mem_filter.1 hq).1
    generalize A.filter (fun q => decide (q.1 = f)) = FA at *
    generalize B.filter (fun q => decide (q.1 = f)) = FB at *
    rw [List.length_append, List.drop_append, List.drop_of_length_le (by omega), List.nil_append] at h
    exact hno (hsub _ (List.mem_of_mem_drop h))
def cnt8 (D : List (Int × Int)) (f : Int) (m : Nat) : Nat := ((D.drop m).filter fun q => decide (q.1 = f)).length
theorem cnt8_go {D : List (Int × Int)} {f : Int} {m : Nat} (hm : m < D.length) : cnt8 D f m = (if (D.getD m default).1 = f then 1 else 0) + cnt8 D f (m + 1) := by
  unfold cnt8
  rw [drop_consG D hm]
  by_cases h : (D.getD m default).1 = f
  · rw [List.filter_cons_of_pos (by simpa using h), if_pos h, List.length_cons, Nat.add_comm]
  · rw [List.filter_cons_of_neg (by simpa using h), if_neg h, Nat.zero_add]
theorem cnt8_le (D : List (Int × Int)) (f : Int) (m : Nat) : cnt8 D f m ≤ D.length := Nat.le_trans (List.length_filter_le ..) (by rw [List.length_drop]; omega)
set_option maxRecDepth 10000 in
theorem cdone (mo : Int) (nl c : Nat) (D : List (Int × Int)) (cd : Nat) (p : Int × Int) (hD : D.length ≤ 1000000) :
    Ctr Try.prog 40 [.c (.p 0 0 0), .c (.i .i64 p.1), .c (.i .i64 p.2)] [.one (asr mo 1 2 nl c D.length cd), .one .no, .one (dnR D cd)]
      fun v h => v = .c (.b (decide (p ∈ last64 D p.1))) ∧ h = [.one (asr mo 1 2 nl c D.length cd), .one .no, .one (dnR D cd)] := by
  refine Ctr.mk' tbv mixed Try.func40 rfl rfl rfl (fun _ _ => by kernel_rfl) (by kernel_rfl) (by rfl) (by rfl) (by (repeat' first | refine And.intro ?_ ?_ | exact xeC | fail) <;> exact fun i hi => rfl) ?_
  repeat' (first | (fail_if_success (with_reducible refine xstp ?_)); first | ((with_reducible refine And.intro ?_ ?_); focus exact xoC) | (with_reducible intro hc; (try simp only [capsP, and_true] at hc); (try exact xfC)) | ((fail_if_success (with_reducible first | refine xgon ?_ | intro _)); (conv => whnf); (fail_if_success (fail_if_success (with_reducible first | refine xstp ?_ | refine xgon ?_ | intro _)))))
  refine LoopK.mk' {m : Nat // m ≤ D.length ∧ p ∉ D.drop m ∧ cnt8 D p.1 m ≤ 64}
    (fun ⟨m, _⟩ => ⟨[(0, .c (.p 0 0 0)), (1, .c (.i .i64 p.1)), (2, .c (.i .i64 p.2)), (7, .c (.i .i64 (cnt8 D p.1 m : Nat))), (8, .c (.i .i64 ((m : Nat) - 1)))], [.one (asr mo 1 2 nl c D.length cd), .one .no, .one (dnR D cd)]⟩) (fun k => k.1)
    ⟨⟨D.length, Nat.le_refl _, by simp, by simp [cnt8]⟩, [0, 1, 2], ?_⟩ ?_
  · (repeat' first | refine And.intro ?_ ?_ | exact xeC | fail)
    all_goals first
      | exact fun i hi => rfl
      | simp [cnt8]
  rintro ⟨m, hm, hno, h64⟩
  have hc8 := cnt8_le D p.1 m
  rcases Nat.eq_zero_or_pos m with rfl | hm0
  · skip
    repeat' (first | (fail_if_success (with_reducible refine xstp ?_)); first | ((with_reducible refine And.intro (fun (hb : _ = true) => ?_) (fun (hb : _ = false) => ?_)) <;> replace hb := xnC hb <;> (try first | exact xfC | exact bff hb (by assumption) | exact bff (by assumption) hb)) | (with_reducible intro hc; (try simp only [capsP, and_true] at hc); (try exact xfC)) | ((fail_if_success (with_reducible first | refine xgon ?_ | intro _)); (conv => whnf); (fail_if_success (fail_if_success (with_reducible first | refine xstp ?_ | refine xgon ?_ | intro _)))))
    have : p ∉ last64 D p.1 := by
      have := not_last (A := []) (B := D) (p := p) (f := p.1) (.inl rfl) (by simpa using hno)
      simpa using this
    rw [decide_eq_false this]
    refine FinK.mk ⟨[0, 1, 2], _, _, ⟨rfl, rfl⟩, ?_⟩
    (repeat' first | refine And.intro ?_ ?_ | exact xeC | fail)
    all_goals exact fun i hi => rfl
  obtain ⟨k, rfl⟩ : ∃ k, m = k + 1 := ⟨m - 1, by omega⟩
  have e2 : (((k + 1 : Nat) : Int) - 1).toNat = k := by omega
  have hgo := cnt8_go (D := D) (f := p.1) (m := k) (by omega)
  have hD1 : D = D.take k ++ D.getD k default :: D.drop (k + 1) := by rw [← drop_consG D (by omega), List.take_append_drop]
  have hnx : D.getD k default ≠ p → p ∉ D.drop k := fun h hq => by
    rw [drop_consG D (by omega)] at hq
    rcases List.mem_cons.1 hq with e | e
    · exact h e.symm
    · exact hno e
  repeat' (first | (fail_if_success (with_reducible refine xstp ?_)); first | ((with_reducible refine And.intro (fun (hb : _ = true) => ?_) (fun (hb : _ = false) => ?_)) <;> replace hb := xnC hb <;> (try first | exact xfC | exact bff hb (by assumption) | exact bff (by assumption) hb)) | ((with_reducible refine And.intro ?_ ?_); focus exact xoC) | (with_reducible intro hc; (try simp only [capsP, and_true] at hc); (try exact xfC)) | ((fail_if_success (with_reducible first | refine xgon ?_ | intro _)); (conv => whnf); (fail_if_success (fail_if_success (with_reducible first | refine xstp ?_ | refine xgon ?_ | intro _)))))
  · rw [e2] at hb
    rw [if_neg hb] at hgo
    refine ⟨⟨k, by omega, hnx (fun e => hb (by rw [e])), by omega⟩, [0, 1, 2], by simp only; omega, ?_⟩
    (repeat' first | refine And.intro ?_ ?_ | exact xeC | fail)
    all_goals first
      | exact fun i hi => rfl
      | omega
  · have hb1 : (D.getD (((k + 1 : Nat) : Int) - 1).toNat default).1 = p.1 := by assumption
    rw [e2] at hb hb1
    have hp : D.getD k default = p := Prod.ext hb1 hb
    have : p ∈ last64 D p.1 := by
      rw [hD1, hp]
      exact mem_last rfl (show cnt8 D p.1 (k + 1) < 64 by omega)
    rw [decide_eq_true this]
    refine FinK.mk ⟨[0, 1, 2], _, _, ⟨rfl, rfl⟩, ?_⟩
    (repeat' first | refine And.intro ?_ ?_ | exact xeC | fail)
    all_goals exact fun i hi => rfl
  · have hb1 : (D.getD (((k + 1 : Nat) : Int) - 1).toNat default).1 = p.1 := by assumption
    rw [e2] at hb hb1
    rw [if_pos hb1] at hgo
    refine ⟨⟨k, by omega, hnx (fun e => hb (by rw [e])), by omega⟩, [0, 1, 2], by simp only; omega, ?_⟩
    (repeat' first | refine And.intro ?_ ?_ | exact xeC | fail)
    all_goals first
      | exact fun i hi => rfl
      | omega
  · have : p ∉ last64 D p.1 := by
      have := not_last (A := D.take (k + 1)) (B := D.drop (k + 1)) (p := p) (f := p.1) (.inr (by show 64 ≤ cnt8 D p.1 (k + 1); omega)) hno
      rwa [List.take_append_drop] at this
    rw [decide_eq_false this]
    refine FinK.mk ⟨[0, 1, 2], _, _, ⟨rfl, rfl⟩, ?_⟩
    (repeat' first | refine And.intro ?_ ?_ | exact xeC | fail)
    all_goals exact fun i hi => rfl
theorem era_take {α : Type} [Inhabited α] (L : List α) (k i : Nat) (hi : i < L.length) : (L.take (i + 1)).eraseIdx k = if i = k then (L.take i).eraseIdx k else (L.take i).eraseIdx k ++ [L.getD i default] := by
  have hl : (L.take i).length = i := by rw [List.length_take]; omega
  rw [take_snocG L hi]
  by_cases h : i = k
  · subst h
    rw [if_pos rfl, List.eraseIdx_append_of_length_le (by omega), List.eraseIdx_of_length_le (l := L.take i) (by omega), hl, Nat.sub_self]
    simp
  · rw [if_neg h]
    rcases Nat.lt_or_ge k i with q | q
    · rw [List.eraseIdx_append_of_lt_length (by omega)]
    · rw [List.eraseIdx_of_length_le (by rw [List.length_append, hl, List.length_singleton]; omega), List.eraseIdx_of_length_le (by omega)]
set_option maxRecDepth 10000 in
theorem cwithout (mo : Int) (y : Nat) (L : List Pr) (c nd cd k : Nat) (hL : L.length ≤ 1000000) (hk : k ≤ 1000000) :
    Ctr Try.prog 41 [.c (.p 0 0 0), .c (.i .i64 (k : Nat))] [.one (asr mo 1 2 L.length c nd cd), .one (prtR (nmK y) L c), .one .no, .one .no, .one .no]
      fun v h => ∃ c', v = .t [] ∧ h = [.one (asr mo 5 2 (L.eraseIdx k).length c' nd cd), .one .no, .one .no, .one .no, .one .no, .one (prtR (nmK y) (L.eraseIdx k) c')] := by
  refine Ctr.mk' tbv mixed Try.func41 rfl rfl rfl (fun _ _ => by kernel_rfl) (by kernel_rfl) (by rfl) (by rfl) (by (repeat' first | refine And.intro ?_ ?_ | exact xeC | fail) <;> exact fun i hi => encK_bel rfl y _) ?_
  repeat' (first | (fail_if_success (with_reducible refine xstp ?_)); first | (with_reducible intro hc; (try simp only [capsP, and_true] at hc); (try exact xfC)) | ((fail_if_success (with_reducible first | refine xgon ?_ | intro _)); (conv => whnf); (fail_if_success (fail_if_success (with_reducible first | refine xstp ?_ | refine xgon ?_ | intro _)))))
  refine LoopK.mk' {p : Nat × Nat // p.1 ≤ L.length}
    (fun ⟨(i, c'), _⟩ => ⟨[(0, .c (.p 0 0 0)), (1, .c (.i .i64 (k : Nat))), (4, .c (.sl 5 0 4 0 ((L.take i).eraseIdx k).length c')), (5, .c (.i .i64 (i : Nat)))], [.one (asr mo 1 2 L.length c nd cd), .one (prtR (nmK y) L c), .one .no, .one .no, .one .no, .one (prtR (nmK y) ((L.take i).eraseIdx k) c')]⟩) (fun k => L.length - k.1.1)
    ⟨⟨(0, 0), Nat.zero_le _⟩, [0, 1, 2, 3, 4, 99], ?_⟩ ?_
  · (repeat' first | refine And.intro ?_ ?_ | exact xeC | fail)
    all_goals first
      | exact fun i hi => rowK_idr y _ L i
      | exact fun i hi => encK_bel rfl y _
      | (intro i hi; simp at hi)
      | skip
  rintro ⟨⟨i, c'⟩, hi⟩
  simp only at hi
  have hel : ((L.take i).eraseIdx k).length ≤ i := Nat.le_trans (List.length_eraseIdx_le ..) (by rw [List.length_take]; omega)
  have e3 : 0 + ((i : Nat) : Int).toNat = i := by omega
  rcases Nat.lt_or_ge i L.length with hlt | hge
  · have het := era_take L k i hlt
    repeat' (first | (fail_if_success (with_reducible refine xstp ?_)); first | ((with_reducible refine And.intro (fun (hb : _ = true) => ?_) (fun (hb : _ = false) => ?_)) <;> replace hb := xnC hb <;> (try first | exact xfC | exact bff hb (by assumption) | exact bff (by assumption) hb)) | ((with_reducible refine And.intro ?_ ?_); focus exact xoC) | ((with_reducible refine Or.inl ⟨?_, ?_, ?_⟩); (focus rfl); focus exact xaC) | (with_reducible intro hc; (try simp only [capsP, and_true] at hc); (try exact xfC)) | ((fail_if_success (with_reducible first | refine xgon ?_ | intro _)); (conv => whnf); (fail_if_success (fail_if_success (with_reducible first | refine xstp ?_ | refine xgon ?_ | intro _)))))
    · rename_i c3
      rw [if_neg (by omega)] at het
      rw [e3]
      refine ⟨⟨(i + 1, c3), hlt⟩, [0, 1, 2, 3, 4, 7], by simp only; omega, ?_⟩
      simp only [het]
      (repeat' first | refine And.intro ?_ ?_ | exact xeC | fail)
      all_goals first
        | exact fun i hi => rowK_idr y _ _ i
        | exact fun i hi => encK_bel rfl y _
        | (rw [List.length_append, List.length_singleton]; omega)
        | (rw [List.length_append, List.length_singleton]; done)
        | exact fun i hi => (app_rowG (encPr (nmK y)) _ _ _ rfl i hi).trans (rowK_idr y _ _ i)
        | skip
    · rw [if_pos (by omega)] at het
      refine ⟨⟨(i + 1, c'), hlt⟩, [0, 1, 2, 3, 4, 5], by simp only; omega, ?_⟩
      simp only [het]
      (repeat' first | refine And.intro ?_ ?_ | exact xeC | fail)
      all_goals first
        | exact fun i hi => rowK_idr y _ _ i
        | exact fun i hi => encK_bel rfl y _
        | skip
  · obtain rfl : i = L.length := by omega
    rw [List.take_length] at hel
    repeat' (first | (fail_if_success (with_reducible refine xstp ?_)); first | ((with_reducible refine And.intro (fun (hb : _ = true) => ?_) (fun (hb : _ = false) => ?_)) <;> replace hb := xnC hb <;> (try first | exact xfC | exact bff hb (by assumption) | exact bff (by assumption) hb)) | (with_reducible intro hc; (try simp only [capsP, and_true] at hc); (try exact xfC)) | ((fail_if_success (with_reducible first | refine xgon ?_ | intro _)); (conv => whnf); (fail_if_success (fail_if_success (with_reducible first | refine xstp ?_ | refine xgon ?_ | intro _)))))
    rw [List.take_length]
    refine FinK.mk ⟨[0, 1, 2, 3, 4, 5], _, _, ⟨c', rfl, rfl⟩, ?_⟩
    (repeat' first | refine And.intro ?_ ?_ | exact xeC | fail)
    all_goals first
      | exact fun i hi => rowK_idr y _ _ i
      | exact fun i hi => encK_bel rfl y _
      | skip
set_option maxRecDepth 10000 in
theorem cNewAR (n : Int) :
    Ctr Try.prog 12 [.c (.i .i64 n)] [] fun v h => v = .a [.i .i64 (max 1 (min 256 n)), .nils, .nils] ∧ h = [] := by
  refine Ctr.mk' tbv mixed Try.func12 rfl rfl rfl (fun _ _ => by kernel_rfl) (by kernel_rfl) (by rfl) (by rfl) (by (repeat' first | refine And.intro ?_ ?_ | exact xeC | fail)) ?_
  repeat' (first | (fail_if_success (with_reducible refine xstp ?_)); first | ((with_reducible refine And.intro (fun (hb : _ = true) => ?_) (fun (hb : _ = false) => ?_)) <;> replace hb := xnC hb <;> (try first | exact xfC | exact bff hb (by assumption) | exact bff (by assumption) hb)) | (with_reducible intro hc; (try simp only [capsP, and_true] at hc); (try exact xfC)) | ((fail_if_success (with_reducible first | refine xgon ?_ | intro _)); (conv => whnf); (fail_if_success (fail_if_success (with_reducible first | refine xstp ?_ | refine xgon ?_ | intro _)))))
  · rw [show max 1 (min 256 n) = 1 by omega]
    refine FinK.mk ⟨[], _, _, ⟨rfl, rfl⟩, ?_⟩
    (repeat' first | refine And.intro ?_ ?_ | exact xeC | fail)
  · rw [show max 1 (min 256 n) = 256 by omega]
    refine FinK.mk ⟨[], _, _, ⟨rfl, rfl⟩, ?_⟩
    (repeat' first | refine And.intro ?_ ?_ | exact xeC | fail)
  · rw [show max 1 (min 256 n) = n by omega]
    refine FinK.mk ⟨[], _, _, ⟨rfl, rfl⟩, ?_⟩
    (repeat' first | refine And.intro ?_ ?_ | exact xeC | fail)
set_option maxRecDepth 10000 in
theorem cOpenAR (mo : Int) (n c nd cd : Nat) :
    Ctr Try.prog 16 [.c (.p 0 0 0)] [.one (asr mo 1 2 n c nd cd), .one .no, .one .no] fun v h => v = .c (.i .i64 (n : Nat)) ∧ h = [.one (asr mo 1 2 n c nd cd), .one .no, .one .no] := by
  refine Ctr.mk' tbv mixed Try.func16 rfl rfl rfl (fun _ _ => by kernel_rfl) (by kernel_rfl) (by rfl) (by rfl) (by (repeat' first | refine And.intro ?_ ?_ | exact xeC | fail)) ?_
  repeat' (first | (fail_if_success (with_reducible refine xstp ?_)); first | (with_reducible intro hc; (try simp only [capsP, and_true] at hc); (try exact xfC)) | ((fail_if_success (with_reducible first | refine xgon ?_ | intro _)); (conv => whnf); (fail_if_success (fail_if_success (with_reducible first | refine xstp ?_ | refine xgon ?_ | intro _)))))
  refine FinK.mk ⟨[0, 1, 2], _, _, ⟨rfl, rfl⟩, ?_⟩; (repeat' first | refine And.intro ?_ ?_ | exact xeC | fail)
end Go.Proofs.Ytgaodeffbgppmaa


namespace Go.Proofs.Ytgaodeffbgppmaa
open Go.X
set_option linter.unusedSimpArgs false
set_option linter.unusedVariables false
/-- The names of the members. -/
structure Nmd (N : Nat) (L : List Pr) : Prop where
  nd : (L.map Pr.x).Nodup
  lt : ∀ p ∈ L, p.x < N
/-- What both have at hand. -/
structure AbOk (A : List Ab) : Prop where
  len : A.length ≤ 256
  hl : ∀ t ∈ A, t.H.length ≤ 64
  dl : ∀ t ∈ A, ∀ e ∈ t.H, e.2.length ≤ 4000
theorem hasG_rk (σ : List Sg) (N : Nat) (L : List Pr) (x : Nat) : (hasG L x).rk σ N = hasG L x := nmG_rk hasFR σ N L x
theorem xmH {p : Prop} (h : p := by first | exact fun _ => trivial | exact fun x => nmG_le hasFR | exact fun x => nmG_bel hasFR | exact fun x => nmG_belR hasFR | fail) : p := h
abbrev nm6 (x : Nat) : Nat × Nat := (6, x)
abbrev asrB (mo : Int) (L : List Pr) (D : List (Int × Int)) (c cd : Nat) : List Fam :=
  [.one (asr mo 1 2 L.length c D.length cd), .one (prtR nm3 L c), .one (dnR D cd), .many (hasG L)]
abbrev asrA (mo : Int) (L : List Pr) (D : List (Int × Int)) (c cd : Nat) : List Fam :=
  [.one (asr mo 4 5 L.length c D.length cd), .one .no, .one .no, .one .no, .one (prtR nm6 L c), .one (dnR D cd), .many (hasG L)]
theorem mem_getDF {l : List Fg} {k : Nat} (h : k < l.length) : l.getD k default ∈ l := by rw [getD_at h]; exact List.getElem_mem _
theorem ck_no {M : Nat} {σ : List Sg} {N' : Nat} (q : Ck) : q.leK M (Ck.no.rk σ N') True := by
  cases q <;> trivial
theorem hasG_leC {σ : List Sg} {N N' : Nat} {L : List Pr} {k : Nat} {t : Pr} (hn : (L.map Pr.x).Nodup) (hk : k < L.length) (ht : t.x = (L.getD k default).x) {x : Nat} (h : x ≠ t.x) : ((fun y => if y = (L.getD k default).x then Ck.no else hasG L y) x).leK N ((hasG (L.set k t) x).rk σ N') True := by
  show (if x = (L.getD k default).x then Ck.no else hasG L x).leK N _ True
  have e : hasG (L.set k t) x = hasG L x := by
    show nmG Pr.x hasC (L.set k t) x = nmG Pr.x hasC L x
    rw [nmG_set hn hk ht, if_neg h]
  rw [hasG_rk, e, if_neg (by rw [← ht]; exact h)]
  have := nmG_le (id := Pr.x) (ck := hasC) hasFR (σ := []) (N := N) (N' := N') (L := L) (x := x)
  rwa [nmG_rk hasFR] at this
theorem hasG_leN {σ : List Sg} {N N' : Nat} {L : List Pr} {k : Nat} {t : Pr} (hn : (L.map Pr.x).Nodup) (hk : k < L.length) (ht : t.x = (L.getD k default).x) {q : Ck} {A : Prop} (h : q.leK N (hasC t) A) : q.leK N ((hasG (L.set k t) t.x).rk σ N') A := by
  have e : hasG (L.set k t) t.x = hasC t := by
    show nmG Pr.x hasC (L.set k t) t.x = _
    rw [nmG_set hn hk ht, if_pos rfl]
  rw [hasG_rk, e]
  exact h
theorem prSet {σ : List Sg} {G F k : Nat} {L : List Pr} {t : Pr} {R : List C} (hn : (L.map Pr.x).Nodup) (hk : k < L.length) (ht : t.x = (L.getD k default).x) (h : ∀ x, x ≠ t.x → key σ 0 F x = (3, x)) (hG : key σ 0 F t.x = (G, 0))
    (hR : R = [.i .i64 t.fr, .i .i64 t.i, .i .i64 t.ct, .sl G 0 4 0 t.H.length t.c]) (i : Nat) (hi : i < L.length) : (if i = k then R else rowOf (encPr nm3) L i) = List.map (C.rk σ 0) (rowOf (encPr fun x => (F, x)) (L.set k t) i) := by
  unfold rowOf
  rw [getD_set _ _ _ _ hk]
  by_cases e : i = k
  · subst e
    rw [if_pos rfl, if_pos rfl, hR]
    simp only [encPr, List.map_cons, List.map_nil, C.rk, hG]
  · have hne : (L.getD i default).x ≠ t.x := by
      rw [ht, getD_at hi, getD_at hk]
      intro q
      have hp := List.pairwise_iff_getElem.1 (List.pairwise_map.1 hn)
      rcases Nat.lt_or_gt_of_ne e with h1 | h1
      · exact hp i k hi hk h1 q
      · exact hp k i hk hi h1 q.symm
    rw [if_neg e, if_neg e]
    simp only [encPr, List.map_cons, List.map_nil, C.rk, h _ hne]
theorem keyA {L : List Pr} {k : Nat} {t : Pr} (hk : k < L.length) (ht : t.x = (L.getD k default).x) : (∀ x, x ≠ t.x → key [0, 1, 2, 3, 1, 2, .adopt 3 (L.getD k default).x 6] 0 6 x = (3, x)) ∧ key [0, 1, 2, 3, 1, 2, .adopt 3 (L.getD k default).x 6] 0 6 t.x = (6, 0) := by
  rw [ht]
  generalize (L.getD k default).x = y
  exact ⟨fun x hx => by simp [key, hx], by simp [key]⟩
theorem ids_set {L : List Pr} {k : Nat} {t : Pr} (hk : k < L.length) (ht : t.x = (L.getD k default).x) : (L.set k t).map Pr.x = L.map Pr.x := by
  rw [List.map_set, ht]
  apply List.ext_getElem
  · simp
  · intro i h1 h2
    rw [List.getElem_set]
    split
    · subst_vars; rw [getD_at hk]; simp
    · rfl
theorem prSetK {k : Nat} {L : List Pr} {t : Pr} {R : List C} (hn : (L.map Pr.x).Nodup) (hk : k < L.length) (ht : t.x = (L.getD k default).x)
    (hR : R = [.i .i64 t.fr, .i .i64 t.i, .i .i64 t.ct, .sl 4 0 4 0 t.H.length t.c]) (i : Nat) (hi : i < L.length) : (if i = k then R else rowOf (encPr nm3) L i) = rowOf (encPr (nmK t.x)) (L.set k t) i := by
  have h := prSet (σ := [0, 1, 2, .adopt 3 t.x 4]) (G := 4) (F := 3) hn hk ht (fun x hx => by simp [key, hx]) (by simp [key]) hR i hi
  rw [h, map_rk_P]
  unfold rowOf encPr nmK
  simp only [key]
  congr 3
  split <;> rename_i q <;> simp [q]
theorem era_mem {α : Type} {L : List α} {k : Nat} {x : α} (h : x ∈ L.eraseIdx k) : x ∈ L := (List.eraseIdx_sublist L k).subset h
theorem hasX_le {σ : List Sg} {N N' y : Nat} {L : List Pr} {x : Nat} : ((fun z => if z = y then Ck.no else hasG L z) x).leK N (((fun z => if z = y then Ck.no else hasG L z) x).rk σ N') True := by
  show (if x = y then Ck.no else hasG L x).leK N ((if x = y then Ck.no else hasG L x).rk σ N') True
  split
  · trivial
  · exact nmG_le hasFR
theorem hasX_bel {n y : Nat} {L : List Pr} {x : Nat} : ((fun z => if z = y then Ck.no else hasG L z) x).belK n True := by
  show (if x = y then Ck.no else hasG L x).belK n True
  split
  · trivial
  · exact nmG_bel hasFR
theorem xmP {p : Prop} (h : p := by first | exact fun _ => trivial | exact fun x => nmG_le hasFR | exact fun x => nmG_bel hasFR | exact fun x => nmG_belR hasFR | exact fun x => hasX_le | exact fun x => hasX_bel | exact fun i hi => rfl | (intro i hi; dsimp only; split <;> rfl) | fail) : p := h
def newP (N : Nat) (fr : Int) (f : Fg) (c2 : Nat) : Pr := ⟨fr, f.id, f.ct, [f], N, c2⟩
theorem prNew {σ : List Sg} {G F N c4 : Nat} {fr : Int} {f : Fg} {L : List Pr} {B : Nat → List C} {R : List C} (hN : Nmd N L) (h : ∀ x, x ≠ N → key σ 0 F x = (3, x)) (hG : key σ 0 F N = (G, 0))
    (hR : R = [.i .i64 fr, .i .i64 f.id, .i .i64 f.ct, .sl G 0 4 0 1 c4]) (i : Nat) (hi : i < L.length + 1) : (if i = L.length then R else appF L.length (rowOf (encPr nm3) L) 0 B i) = List.map (C.rk σ 0) (rowOf (encPr fun x => (F, x)) (L ++ [newP N fr f c4]) i) := by
  by_cases e : i = L.length
  · subst e
    rw [if_pos rfl, hR]
    unfold rowOf
    rw [show (L ++ [newP N fr f c4]).getD L.length default = newP N fr f c4 by simp]
    simp only [encPr, List.map_cons, List.map_nil, C.rk, newP, hG, List.length_singleton]
  · have hlt : i < L.length := by omega
    have hx := hN.lt (L.getD i default) (by rw [getD_at hlt]; exact List.getElem_mem _)
    rw [if_neg e]
    unfold appF rowOf
    rw [if_pos hlt, show (L ++ [newP N fr f c4]).getD i default = L.getD i default by simp [List.getD, List.getElem?_append_left hlt]]
    simp only [encPr, List.map_cons, List.map_nil, C.rk, h (L.getD i default).x (by omega)]
theorem prNewG {σ : List Sg} {G F N c4 : Nat} {fr : Int} {f : Fg} {nm : Nat → Nat × Nat} {L : List Pr} {B : Nat → List C} {R : List C} (h : ∀ p ∈ L, key σ 0 F p.x = nm p.x) (hG : key σ 0 F N = (G, 0))
    (hR : R = [.i .i64 fr, .i .i64 f.id, .i .i64 f.ct, .sl G 0 4 0 1 c4]) (i : Nat) (hi : i < L.length + 1) : (if i = L.length then R else appF L.length (rowOf (encPr nm) L) 0 B i) = List.map (C.rk σ 0) (rowOf (encPr fun x => (F, x)) (L ++ [newP N fr f c4]) i) := by
  by_cases e : i = L.length
  · subst e
    rw [if_pos rfl, hR]
    unfold rowOf
    rw [show (L ++ [newP N fr f c4]).getD L.length default = newP N fr f c4 by simp]
    simp only [encPr, List.map_cons, List.map_nil, C.rk, newP, hG, List.length_singleton]
  · have hlt : i < L.length := by omega
    rw [if_neg e]
    unfold appF rowOf
    rw [if_pos hlt, show (L ++ [newP N fr f c4]).getD i default = L.getD i default by simp [List.getD, List.getElem?_append_left hlt]]
    have h1 := h (L.getD i default) (by rw [getD_at hlt]; exact List.getElem_mem _)
    simp only [encPr, List.map_cons, List.map_nil, C.rk, h1]
theorem prN2 {N c4 : Nat} {fr : Int} {f : Fg} {L : List Pr} {B : Nat → List C} {H2 : List Fg} (hH : H2.length = 1) (i : Nat) (hi : i < L.length + 1) :
    (fun i => if i = L.length then [.i .i64 fr, .i .i64 f.id, .i .i64 f.ct, .sl 8 0 4 0 1 c4] else appF L.length (fun i => rowOf (encPr fun x => (3, x)) L i) 0 B i) i = (fun i => List.map (C.rk [0, 1, 2, 3, 8, 4, 6] N) ((fun i => if i = L.length then [.i .i64 fr, .i .i64 f.id, .i .i64 f.ct, .sl 4 0 4 0 H2.length c4] else rowOf (encPr nm3) L i) i)) i := by
  dsimp only
  by_cases e : i = L.length
  · rw [if_pos e, if_pos e, hH]
    rfl
  · rw [if_neg e, if_neg e]
    unfold appF
    rw [if_pos (by omega)]
    rfl
theorem hasG_leW {σ : List Sg} {N' M N c4 : Nat} {fr : Int} {f : Fg} {L : List Pr} {x : Nat} (h : x ≠ N) : (hasG L x).leK M ((hasG (L ++ [newP N fr f c4]) x).rk σ N') True := by
  have e : hasG (L ++ [newP N fr f c4]) x = hasG L x := nmG_ne h
  rw [e]
  exact nmG_le hasFR
theorem hasG_leX {σ : List Sg} {N' M N c4 : Nat} {fr : Int} {f : Fg} {L : List Pr} (hN : Nmd N L) (h0 : 0 < L.length) {x : Nat} (h : x ≠ N) : (hasG L x).leK M ((hasG (L.eraseIdx 0 ++ [newP N fr f c4]) x).rk σ N') True := by
  have e : hasG (L.eraseIdx 0 ++ [newP N fr f c4]) x = hasG (L.eraseIdx 0) x := nmG_ne h
  have e2 : hasG (L.eraseIdx 0) x = if x = (L.getD 0 default).x then Ck.no else hasG L x := by
    show nmG Pr.x hasC (L.eraseIdx 0) x = if x = (L.getD 0 default).x then Ck.no else nmG Pr.x hasC L x
    rw [List.eraseIdx_eq_take_drop_succ, nmG_cut hN.nd h0]
  rw [e, e2]
  split
  · exact ck_no _
  · exact nmG_le hasFR
theorem hasG_leV {σ : List Sg} {N' M N c4 : Nat} {fr : Int} {f : Fg} {L : List Pr} (hN : Nmd N L) {q : Ck} {A : Prop} (h : q.leK M (hasC (newP N fr f c4)) A) : q.leK M ((hasG (L ++ [newP N fr f c4]) N).rk σ N') A := by
  have e : hasG (L ++ [newP N fr f c4]) N = hasC (newP N fr f c4) := nmG_new (t := newP N fr f c4) fun u hu => Nat.ne_of_lt (hN.lt u hu)
  rw [hasG_rk, e]
  exact h
theorem era_set {α : Type} (L : List α) (k : Nat) (t : α) : (L.set k t).eraseIdx k = L.eraseIdx k := by
  rw [List.eraseIdx_eq_take_drop_succ, List.eraseIdx_eq_take_drop_succ, List.take_set_of_le (Nat.le_refl _), List.drop_set_of_lt (Nat.lt_succ_self _)]
theorem era_ne {L : List Pr} {k : Nat} (hn : (L.map Pr.x).Nodup) (hk : k < L.length) {p : Pr} (hp : p ∈ L.eraseIdx k) : p.x ≠ (L.getD k default).x := by
  have h1 : L = L.take k ++ L.getD k default :: L.drop (k + 1) := by rw [← drop_consG L hk, List.take_append_drop]
  rw [h1, List.map_append, List.map_cons] at hn
  have h2 := List.nodup_append.1 hn
  rw [List.eraseIdx_eq_take_drop_succ] at hp
  rcases List.mem_append.1 hp with h | h
  · exact fun e => h2.2.2 p.x (List.mem_map.2 ⟨p, h, rfl⟩) (L.getD k default).x (List.mem_cons_self ..) e
  · exact fun e => (List.nodup_cons.1 h2.2.1).1 (e ▸ List.mem_map.2 ⟨p, h, rfl⟩)
theorem prRow {σ : List Sg} {F : Nat} {nm : Nat → Nat × Nat} {L : List Pr} (h : ∀ p ∈ L, key σ 0 F p.x = nm p.x) (i : Nat) (hi : i < L.length) : rowOf (encPr nm) L i = List.map (C.rk σ 0) (rowOf (encPr fun x => (F, x)) L i) := by
  have h1 := h (L.getD i default) (by rw [getD_at hi]; exact List.getElem_mem _)
  rw [map_rk_P]
  unfold rowOf encPr
  simp only [h1]
theorem prNewK {N c4 : Nat} {fr : Int} {f : Fg} {L : List Pr} {H2 : List Fg} (hN : Nmd N L) (hH : H2.length = 1) (i : Nat) (hi : i < L.length + 1) :
    (if i = L.length then [.i .i64 fr, .i .i64 f.id, .i .i64 f.ct, .sl 4 0 4 0 H2.length c4] else rowOf (encPr nm3) L i) = rowOf (encPr (nmK N)) (L ++ [newP N fr f c4]) i := by
  unfold rowOf
  by_cases e : i = L.length
  · subst e
    rw [if_pos rfl, hH, show (L ++ [newP N fr f c4]).getD L.length default = newP N fr f c4 by simp]
    simp [encPr, newP, nmK]
  · have hlt : i < L.length := by omega
    rw [if_neg e, show (L ++ [newP N fr f c4]).getD i default = L.getD i default by simp [List.getD, List.getElem?_append_left hlt]]
    have := hN.lt (L.getD i default) (by rw [getD_at hlt]; exact List.getElem_mem _)
    unfold encPr nmK
    rw [if_neg (by omega)]
theorem rowK_3 {σ : List Sg} {M N : Nat} {L : List Pr} (hN : Nmd N L) (h3 : ∀ x, key σ M 3 x = (3, x)) (i : Nat) (hi : i < L.length) : rowOf (encPr nm3) L i = List.map (C.rk σ M) (rowOf (encPr (nmK N)) L i) := by
  have hx := hN.lt (L.getD i default) (by rw [getD_at hi]; exact List.getElem_mem _)
  rw [map_rk_P]
  unfold rowOf encPr
  have e : nmK N (L.getD i default).x = (3, (L.getD i default).x) := if_neg (by omega)
  simp only [e, h3]
theorem rowK_gen {σ : List Sg} {N : Nat} (h3 : ∀ x, key σ N 3 x = (3, x)) (h4 : key σ N 4 0 = (4, 0)) (y : Nat) (L : List Pr) (i : Nat) : List.map (C.rk σ N) (rowOf (encPr (nmK y)) L i) = rowOf (encPr (nmK y)) L i := by
  have h : ∀ x, key σ N (nmK y x).1 (nmK y x).2 = nmK y x := fun x => by
    unfold nmK
    split
    · exact h4
    · exact h3 x
  rw [map_rk_P]
  simp only [h]
theorem nmK_ne {x y : Nat} (h : x ≠ y) : nmK y x = (3, x) := if_neg h
theorem hasX_era {σ : List Sg} {N N' k : Nat} {L : List Pr} {x : Nat} (hn : (L.map Pr.x).Nodup) (hk : k < L.length) : ((fun z => if z = (L.getD k default).x then Ck.no else hasG L z) x).leK N ((hasG (L.eraseIdx k) x).rk σ N') True := by
  show (if x = (L.getD k default).x then Ck.no else hasG L x).leK N _ True
  have e : hasG (L.eraseIdx k) x = if x = (L.getD k default).x then Ck.no else hasG L x := by
    show nmG Pr.x hasC (L.eraseIdx k) x = if x = (L.getD k default).x then Ck.no else nmG Pr.x hasC L x
    rw [List.eraseIdx_eq_take_drop_succ, nmG_cut hn hk]
  rw [e]
  exact hasX_le (x := x)
def hsB (H : List Fg) : List (Int × List UInt8) := H.map fun g => (g.ix, g.d)
def insP (p : Pr) (f : Fg) (c2 : Nat) : Pr := ⟨p.fr, p.i, p.ct, p.H ++ [f], p.x, c2⟩
def outQ (H : List Fg) (n i : Nat) : List UInt8 := ((H.take i).filter fun g => decide (g.ix = ((n : Nat) : Int))).flatMap Fg.d
theorem outQ_0 (H : List Fg) (n : Nat) : outQ H n 0 = [] := rfl
theorem outQ_go {H : List Fg} {n i : Nat} (hi : i < H.length) : outQ H n (i + 1) = if (H.getD i default).ix = (n : Nat) then outQ H n i ++ (H.getD i default).d else outQ H n i := by
  unfold outQ
  rw [take_snocG H hi, List.filter_append, List.flatMap_append]
  by_cases h : (H.getD i default).ix = (n : Nat)
  · rw [if_pos h, List.filter_cons_of_pos (by simpa using h)]
    simp
  · rw [if_neg h, List.filter_cons_of_neg (by simpa using h)]
    simp
theorem outB_go (H : List Fg) (n : Nat) : outB (hsB H) (n + 1) = outB (hsB H) n ++ outQ H n H.length := by
  unfold outB outQ hsB
  rw [List.range_succ, List.flatMap_append, List.flatMap_cons, List.flatMap_nil, List.append_nil, List.take_length, List.filter_map]
  congr 1
  generalize H = l
  induction l with
  | nil => rfl
  | cons a l ih =>
    by_cases h : a.ix = (n : Nat)
    · rw [List.filter_cons_of_pos (by simpa using h), List.filter_cons_of_pos (by simpa using h), List.map_cons, List.flatMap_cons, List.flatMap_cons, ih]
    · rw [List.filter_cons_of_neg (by simpa using h), List.filter_cons_of_neg (by simpa using h), ih]
theorem outQ_len {H : List Fg} {z : Nat} (h : ∀ i, i < H.length → (H.getD i default).d.length ≤ z) (n : Nat) : ∀ i, i ≤ H.length → (outQ H n i).length ≤ z * i
  | 0, _ => Nat.zero_le _
  | i + 1, hi => by
    have h1 := outQ_len h n i (by omega)
    have h2 := h i (by omega)
    rw [outQ_go (by omega), Nat.mul_succ]
    split
    · rw [List.length_append]; omega
    · omega
theorem outB_len {H : List Fg} {z : Nat} (h : ∀ i, i < H.length → (H.getD i default).d.length ≤ z) : ∀ n, (outB (hsB H) n).length ≤ z * H.length * n
  | 0 => Nat.zero_le _
  | n + 1 => by
    have h1 := outB_len h n
    have h2 := outQ_len h n H.length (Nat.le_refl _)
    rw [outB_go, List.length_append, Nat.mul_succ]
    omega
theorem addB_bad {mo : Int} {A : List Ab} {D : List (Int × Int)} {fr : Int} {f : Fg} (h : ¬ ((0 ≤ fr ∧ fr ≤ 7) ∧ okF f)) : addB mo A D fr f = (A, D, [], false, 4) := by
  unfold addB
  rw [if_pos h]
theorem addB_some {mo : Int} {L : List Pr} {D : List (Int × Int)} {fr : Int} {f : Fg} {k : Nat} (h : (0 ≤ fr ∧ fr ≤ 7) ∧ okF f) (hf : fndR L (fr, f.id) = some k) (c2 : Nat) : addB mo (L.map abP) D fr f =
    if (L.getD k default).ct ≠ f.ct then (L.map abP, D, [], false, 2)
    else match getB8 (hsB (L.getD k default).H) f.ix with
    | some d => if d ≠ f.d then (L.map abP, D, [], false, 2) else (L.map abP, D, [], false, 0)
    | none =>
      if ((L.getD k default).H.length : Int) + 1 < f.ct then ((L.set k (insP (L.getD k default) f c2)).map abP, D, [], false, 0)
      else ((L.eraseIdx k).map abP, D ++ [(fr, f.id)], outB (hsB ((L.getD k default).H ++ [f])) f.ct.toNat, true, 0) := by
  have hk := fndR_lt hf
  unfold addB
  rw [if_neg (fun q => q h), fnd_abP, hf]
  simp only [getD_abP hk]
  have e1 : (abP (L.getD k default)).ct = (L.getD k default).ct := rfl
  have e2 : (abP (L.getD k default)).H = hsB (L.getD k default).H := rfl
  have e3 : (hsB (L.getD k default).H).length = (L.getD k default).H.length := List.length_map _
  have e4 : abP (insP (L.getD k default) f c2) = ⟨(abP (L.getD k default)).fr, (abP (L.getD k default)).i, (L.getD k default).ct, hsB (L.getD k default).H ++ [(f.ix, f.d)]⟩ := by
    simp [abP, insP, hsB]
  have e5 : hsB ((L.getD k default).H ++ [f]) = hsB (L.getD k default).H ++ [(f.ix, f.d)] := by simp [hsB]
  rw [e1, e2, e3, e5, List.map_set, e4, List.eraseIdx_eq_take_drop_succ, List.map_append, List.map_take, List.map_drop]
  try rfl
theorem addB_none {mo : Int} {L : List Pr} {D : List (Int × Int)} {fr : Int} {f : Fg} (h : (0 ≤ fr ∧ fr ≤ 7) ∧ okF f) (hf : fndR L (fr, f.id) = none) (N c2 : Nat) : addB mo (L.map abP) D fr f =
    if (fr, f.id) ∈ last64 D fr then (L.map abP, D, [], false, 0)
    else if 1 < f.ct then (((if mo ≤ L.length then L.eraseIdx 0 else L) ++ [newP N fr f c2]).map abP, D, [], false, 0)
    else (L.map abP, D ++ [(fr, f.id)], f.d, true, 0) := by
  unfold addB
  rw [if_neg (fun q => q h), fnd_abP, hf]
  have e4 : abP (newP N fr f c2) = ⟨fr, f.id, f.ct, [(f.ix, f.d)]⟩ := rfl
  simp only [List.length_map, List.map_append, List.map_cons, List.map_nil, e4]
  by_cases hm : mo ≤ L.length
  · simp only [if_pos hm, List.eraseIdx_eq_take_drop_succ, List.take_zero, List.nil_append, List.map_drop, Nat.zero_add]
  · simp only [if_neg hm]
theorem getB_at {H : List Fg} {ix : Int} {i : Nat} (hi : i < H.length) (h : (H.getD i default).ix = ix) (hno : ∀ j, j < i → (H.getD j default).ix ≠ ix) : getB8 (hsB H) ix = some (H.getD i default).d := by
  unfold getB8 hsB
  rw [List.find?_map]
  have : H.find? ((fun e : Int × List UInt8 => e.1 == ix) ∘ fun g : Fg => (g.ix, g.d)) = some (H.getD i default) := by
    rw [List.find?_eq_some_iff_getElem]
    refine ⟨by simpa using h, i, hi, (getD_at hi).symm, fun j hj => ?_⟩
    have := hno j hj
    rw [getD_at (by omega)] at this
    simpa using this
  rw [this]
  rfl
theorem getB_no {H : List Fg} {ix : Int} (hno : ∀ j, j < H.length → (H.getD j default).ix ≠ ix) : getB8 (hsB H) ix = none := by
  unfold getB8 hsB
  rw [List.find?_map]
  have : H.find? ((fun e : Int × List UInt8 => e.1 == ix) ∘ fun g : Fg => (g.ix, g.d)) = none := by
    rw [List.find?_eq_none]
    intro g hg
    obtain ⟨j, hj, rfl⟩ := List.mem_iff_getElem.1 hg
    have := hno j hj
    rw [getD_at hj] at this
    simpa using this
  rw [this]
  rfl
theorem rH15uD0 {σ : List Sg} {H h' : List Fam} {v : T} {K : T → List Fam → Prop} {H' : List Fam} {v' : T} {N : Nat} (hk : K v' H') (hN : H.length = N := by (try simp only [↓List.length_cons, ↓List.length_nil, Nat.reduceAdd]) <;> rfl) (h : givesF σ N H σ h' = some H' := by (try simp (maxSteps := 1000000) only [givesF, setF, updF, Fam.zeroth, Fam.rk, Ck.rk, C.rk, E.rk, T.rk, key, List.map_cons, List.map_nil, List.cons_append, List.nil_append, List.length_cons, List.length_nil, Option.map_some, Option.bind_some, Nat.reduceAdd, Nat.zero_add, Nat.add_zero, Nat.add_sub_cancel_left, Int.toNat_natCast, reps, List.all_cons, List.all_nil, C.flat, List.append_eq, Bool.not_true, Bool.and_true, Bool.or_false, Bool.or_self, Bool.not_false, List.append_nil, Bool.and_self, ↓hasG_rk, map_rk_P]) <;> rfl) (hv : v.rk σ N = v' := by (try simp only [givesF, setF, updF, Fam.zeroth, Fam.rk, Ck.rk, C.rk, E.rk, T.rk, key, List.map_cons, List.map_nil, List.cons_append, List.nil_append, List.length_cons, List.length_nil, Option.map_some, Option.bind_some, Nat.reduceAdd, Nat.zero_add, Nat.add_zero, Nat.add_sub_cancel_left, Int.toNat_natCast, reps, List.all_cons, List.all_nil, C.flat, List.append_eq, Bool.not_true, Bool.and_true, Bool.or_false, Bool.or_self, Bool.not_false, List.append_nil, Bool.and_self, ↓hasG_rk, map_rk_P]) <;> rfl) : RetG σ H h' v K := ret_mk3 hN h hv hk
theorem rH15uD1 {σ : List Sg} {H h' : List Fam} {v : T} {K : T → List Fam → Prop} {H' : List Fam} {v' : T} {N : Nat} (hk : K v' H') (hN : H.length = N := by (try simp only [↓List.length_cons, ↓List.length_nil, Nat.reduceAdd]) <;> rfl) (h : givesF σ N H σ h' = some H' := by (try simp (maxSteps := 1000000) only [givesF, setF, updF, Fam.zeroth, Fam.rk, Ck.rk, C.rk, E.rk, T.rk, key, List.map_cons, List.map_nil, List.cons_append, List.nil_append, List.length_cons, List.length_nil, Option.map_some, Option.bind_some, Nat.reduceAdd, Nat.zero_add, Nat.add_zero, Nat.add_sub_cancel_left, Int.toNat_natCast, reps, List.all_cons, List.all_nil, C.flat, List.append_eq, Bool.not_true, Bool.and_true, Bool.or_false, Bool.or_self, Bool.not_false, List.append_nil, Bool.and_self, ↓hasG_rk]) <;> rfl) (hv : v.rk σ N = v' := by (try simp only [givesF, setF, updF, Fam.zeroth, Fam.rk, Ck.rk, C.rk, E.rk, T.rk, key, List.map_cons, List.map_nil, List.cons_append, List.nil_append, List.length_cons, List.length_nil, Option.map_some, Option.bind_some, Nat.reduceAdd, Nat.zero_add, Nat.add_zero, Nat.add_sub_cancel_left, Int.toNat_natCast, reps, List.all_cons, List.all_nil, C.flat, List.append_eq, Bool.not_true, Bool.and_true, Bool.or_false, Bool.or_self, Bool.not_false, List.append_nil, Bool.and_self, ↓hasG_rk]) <;> rfl) : RetG σ H h' v K := ret_mk3 hN h hv hk
theorem cH15uD2 {P : Program} {F : Nat} {args : List T} {H : List Fam} {K : T → List Fam → Prop} {σ : List Sg} {nl : List Fam} {args0 : List T} {h0 : List Fam} {Q : T → List Fam → Prop} {H2 H1 : List Fam} {N n : Nat} (hc : Ctr P F args0 h0 Q) (hk : ∀ v h', Q v h' → capsP h' → RetG σ H2 h' v K) (hap : apart σ = true := by rfl) (hnl : nl.all nilB = true := by rfl) (h1 : H ++ nl = H1 := by first | exact List.append_nil _ | ((try simp only [List.cons_append, List.nil_append]) <;> rfl)) (hN : H1.length = N := by (try simp only [↓List.length_cons, ↓List.length_nil, Nat.reduceAdd]) <;> rfl) (hn : H.length = n := by (try simp only [↓List.length_cons, ↓List.length_nil, Nat.reduceAdd]) <;> rfl) (hH : givesF σ N H1 σ h0 = some H2 := by (try simp (maxSteps := 1000000) only [givesF, setF, updF, Fam.zeroth, Fam.rk, Ck.rk, C.rk, E.rk, T.rk, key, List.map_cons, List.map_nil, List.cons_append, List.nil_append, List.length_cons, List.length_nil, Option.map_some, Option.bind_some, Nat.reduceAdd, Nat.zero_add, Nat.add_zero, Nat.add_sub_cancel_left, Int.toNat_natCast, reps, List.all_cons, List.all_nil, C.flat, List.append_eq, Bool.not_true, Bool.and_true, Bool.or_false, Bool.or_self, Bool.not_false, List.append_nil, Bool.and_self, ↓hasG_rk]) <;> rfl) (hle : leS n H1 σ N σ h0 (belsK N (h0.map (Fam.rk σ N)) (argsK n args (args0.map (T.rk σ N)) True)) := by repeat' first | refine And.intro ?_ ?_ | exact xeC | fail) : CallK P F args H K := CallK.mk3 hc hap hnl h1 hN hn hH hle hk
set_option maxRecDepth 10000 in
set_option maxHeartbeats 16000000 in
theorem cAddR (mo : Int) (N : Nat) (L : List Pr) (D : List (Int × Int)) (c cd : Nat) (fr : Int) (f : Fg) (hmo : 1 ≤ mo ∧ mo ≤ 256) (hN : Nmd N L) (hA : AbOk (L.map abP)) (hD : D.length ≤ 100000) (hd : f.d.length ≤ 100000) :
    Ctr Try.prog 14 [.c (.p 0 0 0), .c (.i .i64 fr), .a (encG f)] (asrB mo L D c cd)
      fun v h => ∃ L' c' cd', L'.map abP = (addB mo (L.map abP) D fr f).1 ∧ (L'.map Pr.x).Nodup ∧ (∀ p ∈ L', p.x < N + 1) ∧
        v = .t [.c (.s (mkS (addB mo (L.map abP) D fr f).2.2.1)), .c (.b (addB mo (L.map abP) D fr f).2.2.2.1), .c (.i .i64 ((addB mo (L.map abP) D fr f).2.2.2.2 : Nat))] ∧
        h = asrA mo L' (addB mo (L.map abP) D fr f).2.1 c' cd' := by
  have hLl : L.length ≤ 256 := by have := hA.len; rwa [List.length_map] at this
  have hz : (mkS f.d).size = f.d.length := rfl
  refine Ctr.mk' tbv mixed Try.func14 rfl rfl rfl (fun _ _ => by kernel_rfl) (by kernel_rfl) (by rfl) (by rfl) (by (repeat' first | refine And.intro ?_ ?_ | exact xeC | fail) <;> (first | exact fun i hi => rfl | exact xmH)) ?_
  repeat' (first | (fail_if_success (with_reducible refine xstp ?_)); first | ((with_reducible refine And.intro (fun (hb : _ = true) => ?_) (fun (hb : _ = false) => ?_)) <;> replace hb := xnC hb <;> (try first | exact xfC | exact bff hb (by assumption) | exact bff (by assumption) hb)) | (with_reducible intro hc; (try simp only [capsP, and_true] at hc); (try exact xfC)) | ((fail_if_success (with_reducible first | refine xgon ?_ | intro _)); (conv => whnf); (fail_if_success (fail_if_success (with_reducible first | refine xstp ?_ | refine xgon ?_ | intro _)))))
  · skip
    have hadd : addB mo (L.map abP) D fr f = (L.map abP, D, [], false, 4) := by exact addB_bad (fun q => by have := q.1; omega)
    rw [hadd]
    refine FinK.mk ⟨[0, 1, 2, 3, 1, 2, 3], _, _, ⟨L, c, cd, rfl, hN.nd, fun p hp => Nat.lt_succ_of_lt (hN.lt p hp), rfl, rfl⟩, ?_⟩
    (repeat' first | refine And.intro ?_ ?_ | exact xeC | fail)
    all_goals first
      | exact fun i hi => rfl
      | exact xmH
  · skip
    have hadd : addB mo (L.map abP) D fr f = (L.map abP, D, [], false, 4) := by exact addB_bad (fun q => by have := q.1; omega)
    rw [hadd]
    refine FinK.mk ⟨[0, 1, 2, 3, 1, 2, 3], _, _, ⟨L, c, cd, rfl, hN.nd, fun p hp => Nat.lt_succ_of_lt (hN.lt p hp), rfl, rfl⟩, ?_⟩
    (repeat' first | refine And.intro ?_ ?_ | exact xeC | fail)
    all_goals first
      | exact fun i hi => rfl
      | exact xmH
  refine cH15uD2 (σ := []) (nl := []) (cvalidR f (by omega)) ?_
  rintro v h' ⟨rfl, rfl⟩ hcaps
  refine ret_mk3 (by (try simp only [↓List.length_cons, ↓List.length_nil, Nat.reduceAdd]); rfl) (by (try simp (maxSteps := 1000000) only [givesF, setF, updF, Fam.zeroth, Fam.rk, Ck.rk, C.rk, E.rk, T.rk, key, List.map_cons, List.map_nil, List.cons_append, List.nil_append, List.length_cons, List.length_nil, Option.map_some, Option.bind_some, Nat.reduceAdd, Nat.zero_add, Nat.add_zero, Nat.add_sub_cancel_left, Int.toNat_natCast, reps, List.all_cons, List.all_nil, C.flat, List.append_eq, Bool.not_true, Bool.and_true, Bool.or_false, Bool.or_self, Bool.not_false, List.append_nil, Bool.and_self, ↓hasG_rk, encG]); rfl) (by (try simp only [givesF, setF, updF, Fam.zeroth, Fam.rk, Ck.rk, C.rk, E.rk, T.rk, key, List.map_cons, List.map_nil, List.cons_append, List.nil_append, List.length_cons, List.length_nil, Option.map_some, Option.bind_some, Nat.reduceAdd, Nat.zero_add, Nat.add_zero, Nat.add_sub_cancel_left, Int.toNat_natCast, reps, List.all_cons, List.all_nil, C.flat, List.append_eq, Bool.not_true, Bool.and_true, Bool.or_false, Bool.or_self, Bool.not_false, List.append_nil, Bool.and_self, ↓hasG_rk, encG]); rfl) ?_
  repeat' (first | (fail_if_success (with_reducible refine xstp ?_)); first | ((with_reducible refine And.intro (fun (hb : _ = true) => ?_) (fun (hb : _ = false) => ?_)) <;> replace hb := xnC hb <;> (try first | exact xfC | exact bff hb (by assumption) | exact bff (by assumption) hb)) | ((fail_if_success (with_reducible first | refine xgon ?_ | intro _)); (conv => whnf); (fail_if_success (fail_if_success (with_reducible first | refine xstp ?_ | refine xgon ?_ | intro _)))))
  · skip
    have hadd : addB mo (L.map abP) D fr f = (L.map abP, D, [], false, 4) := by exact addB_bad (fun q => absurd q.2 (by simpa using hb))
    rw [hadd]
    refine FinK.mk ⟨[0, 1, 2, 3, 1, 2, 3], _, _, ⟨L, c, cd, rfl, hN.nd, fun p hp => Nat.lt_succ_of_lt (hN.lt p hp), rfl, rfl⟩, ?_⟩
    (repeat' first | refine And.intro ?_ ?_ | exact xeC | fail)
    all_goals first
      | exact fun i hi => rfl
      | exact xmH
  have hok : (0 ≤ fr ∧ fr ≤ 7) ∧ okF f := ⟨⟨by omega, by omega⟩, by simpa using hb⟩
  have hokf := hok.2
  unfold okF at hokf
  refine cH15uD2 (σ := [.whole 0, .whole 1, .name 2, .name 3]) (nl := []) (cplace mo L c D.length cd (fr, f.id) (by omega)) ?_ (hle := by (repeat' first | refine And.intro ?_ ?_ | exact xeC | fail) <;> (first | exact fun i hi => rfl | exact xmH))
  rcases (by cases fndR L (fr, f.id) <;> simp : (∃ k, fndR L (fr, f.id) = some k) ∨ fndR L (fr, f.id) = none) with ⟨k, hf⟩ | hf
  · have hk := fndR_lt hf
    have hadd0 := fun c2 => addB_some (mo := mo) (D := D) hok hf c2
    rw [hf, show idxR (some k) = (k : Nat) from rfl]
    rintro v h' ⟨rfl, rfl⟩ hcaps
    have ht : L.getD k default ∈ L := by rw [getD_at hk]; exact List.getElem_mem _
    have hHl : (L.getD k default).H.length ≤ 64 := by
      have := hA.hl _ (List.mem_map.2 ⟨_, ht, rfl⟩)
      rwa [show (abP (L.getD k default)).H.length = (L.getD k default).H.length from List.length_map _] at this
    have hHd : ∀ i, i < (L.getD k default).H.length → ((L.getD k default).H.getD i default).d.length ≤ 4000 := fun i hi =>
      hA.dl _ (List.mem_map.2 ⟨_, ht, rfl⟩) (((L.getD k default).H.getD i default).ix, ((L.getD k default).H.getD i default).d) (List.mem_map.2 ⟨_, by rw [getD_at hi]; exact List.getElem_mem _, rfl⟩)
    have hmem : hasG L (L.getD k default).x = hasC (L.getD k default) := nmG_at hN.nd hk
    have e3 : 0 + ((k : Nat) : Int).toNat = k := by omega
    refine ret_mk3 (by (try simp only [↓List.length_cons, ↓List.length_nil, Nat.reduceAdd]); rfl) (by (try simp (maxSteps := 1000000) only [givesF, setF, updF, Fam.zeroth, Fam.rk, Ck.rk, C.rk, E.rk, T.rk, key, List.map_cons, List.map_nil, List.cons_append, List.nil_append, List.length_cons, List.length_nil, Option.map_some, Option.bind_some, Nat.reduceAdd, Nat.zero_add, Nat.add_zero, Nat.add_sub_cancel_left, Int.toNat_natCast, reps, List.all_cons, List.all_nil, C.flat, List.append_eq, Bool.not_true, Bool.and_true, Bool.or_false, Bool.or_self, Bool.not_false, List.append_nil, Bool.and_self, ↓hasG_rk, encG, map_rk_P]); rfl) (by (try simp only [givesF, setF, updF, Fam.zeroth, Fam.rk, Ck.rk, C.rk, E.rk, T.rk, key, List.map_cons, List.map_nil, List.cons_append, List.nil_append, List.length_cons, List.length_nil, Option.map_some, Option.bind_some, Nat.reduceAdd, Nat.zero_add, Nat.add_zero, Nat.add_sub_cancel_left, Int.toNat_natCast, reps, List.all_cons, List.all_nil, C.flat, List.append_eq, Bool.not_true, Bool.and_true, Bool.or_false, Bool.or_self, Bool.not_false, List.append_nil, Bool.and_self, ↓hasG_rk, encG, map_rk_P]); rfl) ?_
    repeat' (first | (fail_if_success (with_reducible refine xstp ?_)); first | ((with_reducible refine And.intro (fun (hb : _ = true) => ?_) (fun (hb : _ = false) => ?_)) <;> replace hb := xnC hb <;> (try first | exact xfC | exact bff hb (by assumption) | exact bff (by assumption) hb)) | ((with_reducible refine And.intro ?_ ?_); focus exact xoC) | ((fail_if_success (with_reducible first | refine xgon ?_ | intro _)); (conv => whnf); (fail_if_success (fail_if_success (with_reducible first | refine xstp ?_ | refine xgon ?_ | intro _)))))
    · skip
      have hadd : addB mo (L.map abP) D fr f = (L.map abP, D, [], false, 2) := by (rw [hadd0 0, if_pos hb])
      rw [hadd]
      refine FinK.mk ⟨[0, 1, 2, 3, 1, 2, 3], _, _, ⟨L, c, cd, rfl, hN.nd, fun p hp => Nat.lt_succ_of_lt (hN.lt p hp), rfl, rfl⟩, ?_⟩
      (repeat' first | refine And.intro ?_ ?_ | exact xeC | fail)
      all_goals first
        | exact fun i hi => rfl
        | exact xmH
    have hct : (L.getD k default).ct = f.ct := by simpa using hb
    refine LoopK.mk' {i : Nat // i ≤ (L.getD k default).H.length ∧ ∀ j, j < i → ((L.getD k default).H.getD j default).ix ≠ f.ix}
      (fun ⟨i, _⟩ => ⟨[(0, .c (.p 0 0 0)), (1, .c (.i .i64 fr)), (5, .c (.p 4 0 0)), (9, .c (.i .i64 (k : Nat))), (10, .c (.i .i64 (i : Nat)))],
        [.one (asr mo 1 2 L.length c D.length cd), .one (prtR nm3 L c), .one (dnR D cd), .many (hasG L), .one (.cells true (encG f))]⟩) (fun q => (L.getD k default).H.length - q.1)
      ⟨⟨0, Nat.zero_le _, fun j hj => absurd hj (Nat.not_lt_zero j)⟩, [0, 1, 2, 3, 4], ?_⟩ ?_
    · (repeat' first | refine And.intro ?_ ?_ | exact xeC | fail)
      all_goals first
        | exact fun i hi => rfl
        | exact xmH
    rintro ⟨i, hi, hno⟩
    have e4 : 0 + ((i : Nat) : Int).toNat = i := by omega
    rcases Nat.lt_or_ge i (L.getD k default).H.length with hlt | hge
    · have hdi := hHd i hlt
      repeat' (first | (fail_if_success (with_reducible refine xstp ?_)); first | ((with_reducible refine And.intro (fun (hb : _ = true) => ?_) (fun (hb : _ = false) => ?_)) <;> replace hb := xnC hb <;> (try first | exact xfC | exact bff hb (by assumption) | exact bff (by assumption) hb)) | ((with_reducible refine And.intro ?_ ?_); focus exact xoC) | (with_reducible intro hc; (try simp only [capsP, and_true] at hc); (try exact xfC)) | ((fail_if_success (with_reducible first | refine xgon ?_ | intro _)); (conv => whnf); (fail_if_success (fail_if_success (with_reducible first | refine xstp ?_ | refine xgon ?_ | intro _)))))
      rw [e3]
      refine ManyK.mk ⟨fgR (L.getD k default).H (L.getD k default).c, hmem, ?_⟩
      repeat' (first | (fail_if_success (with_reducible refine xstp ?_)); first | ((with_reducible refine And.intro ?_ ?_); focus exact xoC) | ((fail_if_success (with_reducible first | refine xgon ?_ | intro _)); (conv => whnf); (fail_if_success (fail_if_success (with_reducible first | refine xstp ?_ | refine xgon ?_ | intro _)))))
      refine ManyK.mk ⟨fgR (L.getD k default).H (L.getD k default).c, hmem, ?_⟩
      repeat' (first | (fail_if_success (with_reducible refine xstp ?_)); first | ((with_reducible refine And.intro (fun (hb : _ = true) => ?_) (fun (hb : _ = false) => ?_)) <;> replace hb := xnC hb <;> (try first | exact xfC | exact bff hb (by assumption) | exact bff (by assumption) hb)) | ((with_reducible refine And.intro ?_ ?_); focus exact xoC) | ((fail_if_success (with_reducible first | refine xgon ?_ | intro _)); (conv => whnf); (fail_if_success (fail_if_success (with_reducible first | refine xstp ?_ | refine xgon ?_ | intro _)))))
      · refine ⟨⟨i + 1, by omega, fun j hj => ?_⟩, [0, 1, 2, 3, 4], by simp only; omega, ?_⟩
        · rcases (by omega : j < i ∨ j = i) with h | rfl
          · exact hno j h
          · exact hb
        · (repeat' first | refine And.intro ?_ ?_ | exact xeC | fail)
          all_goals first
            | exact fun i hi => rfl
            | exact xmH
      rw [e3]
      refine ManyK.mk ⟨fgR (L.getD k default).H (L.getD k default).c, hmem, ?_⟩
      repeat' (first | (fail_if_success (with_reducible refine xstp ?_)); first | ((with_reducible refine And.intro ?_ ?_); focus exact xoC) | ((fail_if_success (with_reducible first | refine xgon ?_ | intro _)); (conv => whnf); (fail_if_success (fail_if_success (with_reducible first | refine xstp ?_ | refine xgon ?_ | intro _)))))
      refine ManyK.mk ⟨fgR (L.getD k default).H (L.getD k default).c, hmem, ?_⟩
      repeat' (first | (fail_if_success (with_reducible refine xstp ?_)); first | ((with_reducible refine And.intro (fun (hb : _ = true) => ?_) (fun (hb : _ = false) => ?_)) <;> replace hb := xnC hb <;> (try first | exact xfC | exact bff hb (by assumption) | exact bff (by assumption) hb)) | ((with_reducible refine And.intro ?_ ?_); focus exact xoC) | ((fail_if_success (with_reducible first | refine xgon ?_ | intro _)); (conv => whnf); (fail_if_success (fail_if_success (with_reducible first | refine xstp ?_ | refine xgon ?_ | intro _)))))
      · have hix : ((L.getD k default).H.getD i default).ix = f.ix := by assumption
        have hg := getB_at hlt hix hno
        have hadd : addB mo (L.map abP) D fr f = (L.map abP, D, [], false, 2) := by (rw [hadd0 0, if_neg (fun q => q hct), hg]; exact if_pos (fun e => hb (by rw [e])))
        rw [hadd]
        refine FinK.mk ⟨[0, 1, 2, 3, 1, 2, 3], _, _, ⟨L, c, cd, rfl, hN.nd, fun p hp => Nat.lt_succ_of_lt (hN.lt p hp), rfl, rfl⟩, ?_⟩
        (repeat' first | refine And.intro ?_ ?_ | exact xeC | fail)
        all_goals first
          | exact fun i hi => rfl
          | exact xmH
      · have hix : ((L.getD k default).H.getD i default).ix = f.ix := by assumption
        have hg := getB_at hlt hix hno
        have hadd : addB mo (L.map abP) D fr f = (L.map abP, D, [], false, 0) := by (rw [hadd0 0, if_neg (fun q => q hct), hg]; exact if_neg (fun e => e (mkS_inj.1 hb)))
        rw [hadd]
        refine FinK.mk ⟨[0, 1, 2, 3, 1, 2, 3], _, _, ⟨L, c, cd, rfl, hN.nd, fun p hp => Nat.lt_succ_of_lt (hN.lt p hp), rfl, rfl⟩, ?_⟩
        (repeat' first | refine And.intro ?_ ?_ | exact xeC | fail)
        all_goals first
          | exact fun i hi => rfl
          | exact xmH
    · have hg := getB_no (fun j hj => hno j (by omega))
      repeat' (first | (fail_if_success (with_reducible refine xstp ?_)); first | ((with_reducible refine And.intro (fun (hb : _ = true) => ?_) (fun (hb : _ = false) => ?_)) <;> replace hb := xnC hb <;> (try first | exact xfC | exact bff hb (by assumption) | exact bff (by assumption) hb)) | ((with_reducible refine And.intro ?_ ?_); focus exact xoC) | (with_reducible intro hc; (try simp only [capsP, and_true] at hc); (try exact xfC)) | ((fail_if_success (with_reducible first | refine xgon ?_ | intro _)); (conv => whnf); (fail_if_success (fail_if_success (with_reducible first | refine xstp ?_ | refine xgon ?_ | intro _)))))
      rw [e3]
      refine ManyK.mk ⟨fgR (L.getD k default).H (L.getD k default).c, hmem, ?_⟩
      repeat' (first | (fail_if_success (with_reducible refine xstp ?_)); first | ((with_reducible refine And.intro ?_ ?_); focus exact xoC) | ((with_reducible refine Or.inl ⟨?_, ?_, ?_⟩); (focus rfl); focus exact xaC) | (with_reducible intro hc; (try simp only [capsP, and_true] at hc); (try exact xfC)) | ((fail_if_success (with_reducible first | refine xgon ?_ | intro _)); (conv => whnf); (fail_if_success (fail_if_success (with_reducible first | refine xstp ?_ | refine xgon ?_ | intro _)))))
      rename_i c2
      have hif : ∀ (A : List C) (B : Nat → List C), (fun i => if i = k then A else B i) k = A := fun A B => if_pos rfl
      rw [e3, hif]
      repeat' (first | (fail_if_success (with_reducible refine xstp ?_)); first | ((with_reducible refine And.intro (fun (hb : _ = true) => ?_) (fun (hb : _ = false) => ?_)) <;> replace hb := xnC hb <;> (try first | exact xfC | exact bff hb (by assumption) | exact bff (by assumption) hb)) | ((fail_if_success (with_reducible first | refine xgon ?_ | intro _)); (conv => whnf); (fail_if_success (fail_if_success (with_reducible first | refine xstp ?_ | refine xgon ?_ | intro _)))))
      · have hlt : ((L.getD k default).H.length : Int) + 1 < f.ct := by omega
        have hadd : addB mo (L.map abP) D fr f = ((L.set k (insP (L.getD k default) f c2)).map abP, D, [], false, 0) := by
          rw [hadd0 c2, if_neg (fun q => q hct), hg]
          exact if_pos hlt
        have htx : (insP (L.getD k default) f c2).x = (L.getD k default).x := rfl
        rw [hadd]
        refine FinK.mk ⟨[0, 1, 2, 3, 1, 2, .adopt 3 (L.getD k default).x 6], _, _, ⟨L.set k (insP (L.getD k default) f c2), c, cd, rfl, by rw [ids_set hk htx]; exact hN.nd, fun p hp => ?_, rfl, rfl⟩, ?_⟩
        · rcases List.mem_or_eq_of_mem_set hp with h | rfl
          · exact Nat.lt_succ_of_lt (hN.lt p h)
          · exact Nat.lt_succ_of_lt (hN.lt (L.getD k default) ht)
        (repeat' first | refine And.intro ?_ ?_ | exact xeC | fail)
        all_goals first
          | exact fun i hi => rfl
          | (rw [List.length_set]; exact Nat.le_refl _)
          | (rw [List.length_set]; done)
          | exact fun i hi => prSet (G := 6) hN.nd hk htx (keyA hk htx).1 (keyA hk htx).2 (by simp [insP]) i (by rwa [List.length_set] at hi)
          | exact fun x hx => hasG_leC hN.nd hk htx hx
          | exact xmH
          | skip
        refine hasG_leN hN.nd hk htx ?_
        refine ⟨rfl, rfl, rfl, rfl, by simp [insP], rfl, fun i hi => app_rowG encG (L.getD k default).H f _ rfl i (by simpa [insP] using hi), ?_⟩
        (repeat' first | refine And.intro ?_ ?_ | exact xeC | fail)
        all_goals exact xmH
      · have hge : ¬ ((L.getD k default).H.length : Int) + 1 < f.ct := by omega
        have hadd : addB mo (L.map abP) D fr f = ((L.eraseIdx k).map abP, D ++ [(fr, f.id)], outB (hsB ((L.getD k default).H ++ [f])) f.ct.toNat, true, 0) := by
          rw [hadd0 c2, if_neg (fun q => q hct), hg]
          exact if_neg hge
        have htx : (insP (L.getD k default) f c2).x = (L.getD k default).x := rfl
        rw [hadd]
        have hHl2 : ((L.getD k default).H ++ [f]).length ≤ 65 := by rw [List.length_append, List.length_singleton]; omega
        have hHd2 : ∀ i, i < ((L.getD k default).H ++ [f]).length → (((L.getD k default).H ++ [f]).getD i default).d.length ≤ 4000 := fun i hi => by
          have hm := mem_getDF hi
          rcases List.mem_append.1 hm with h | h
          · obtain ⟨j, hj, e⟩ := List.mem_iff_getElem.1 h
            have := hHd j hj
            rw [getD_at hj, e] at this
            exact this
          · rw [List.mem_singleton.1 h]; exact hokf.2.2.2
        have hsl : ((L.getD k default).H ++ [f]).length = (L.getD k default).H.length + 1 := by simp
        have hrow : ∀ i, i < ((L.getD k default).H ++ [f]).length → appF (L.getD k default).H.length (rowOf encG (L.getD k default).H) 0 (chunkOf 4 [.i .i64 f.id, .i .i64 f.ix, .i .i64 f.ct, .s (mkS f.d)]) i = rowOf encG ((L.getD k default).H ++ [f]) i := fun i hi => app_rowG encG (L.getD k default).H f _ rfl i hi
        generalize hH2 : (L.getD k default).H ++ [f] = H2 at *
        have hrow2 := True.intro
        have hrow3 := True.intro
        have hrow4 := True.intro
        refine LoopK.mk' {n : Nat // (n : Int) ≤ f.ct}
          (fun ⟨n, _⟩ => ⟨[(0, .c (.p 0 0 0)), (1, .c (.i .i64 fr)), (5, .c (.p 5 0 0)), (9, .c (.i .i64 (k : Nat))), (11, .c (.s (mkS (outB (hsB H2) n)))), (12, .c (.i .i64 (n : Nat)))],
            [.one (asr mo 1 2 L.length c D.length cd), .one (.row true true 97 4 L.length c fun i => if i = k then [.i .i64 (L.getD k default).fr, .i .i64 (L.getD k default).i, .i .i64 (L.getD k default).ct, .sl 4 0 4 0 H2.length c2] else rowOf (encPr nm3) L i), .one (dnR D cd), .many (fun y => if y = (L.getD k default).x then Ck.no else hasG L y), .one (fgR H2 c2), .one (.cells true (encG f))]⟩) (fun q => f.ct.toNat - q.1)
          ⟨⟨0, by omega⟩, [0, 1, 2, 3, 6, 4], ?_⟩ ?_
        · (repeat' first | refine And.intro ?_ ?_ | exact xeC | fail)
          all_goals first
            | exact xmP
            | exact hrow
            | exact hrow2
            | exact hrow3
            | exact hrow4
            | (intro i hi; dsimp only; rw [hsl]; split <;> rfl)
            | omega
            | skip
        rintro ⟨n, hn⟩
        have hol := outB_len hHd2 n
        have hif : ∀ (A : List C) (B : Nat → List C), (fun i => if i = k then A else B i) k = A := fun A B => if_pos rfl
        repeat' (first | (fail_if_success (with_reducible refine xstp ?_)); first | ((with_reducible refine And.intro (fun (hb : _ = true) => ?_) (fun (hb : _ = false) => ?_)) <;> replace hb := xnC hb <;> (try first | exact xfC | exact bff hb (by assumption) | exact bff (by assumption) hb)) | ((with_reducible refine And.intro ?_ ?_); focus exact xoC) | ((with_reducible refine Or.inl ⟨?_, ?_, ?_⟩); (focus rfl); focus exact xaC) | (with_reducible intro hc; (try simp only [capsP, and_true] at hc); (try exact xfC)) | ((fail_if_success (with_reducible first | refine xgon ?_ | intro _)); (conv => whnf); (fail_if_success (fail_if_success (with_reducible first | refine xstp ?_ | refine xgon ?_ | intro _)))))
        · refine LoopK.mk' {i : Nat // i ≤ H2.length}
            (fun ⟨i, _⟩ => ⟨[(0, .c (.p 0 0 0)), (1, .c (.i .i64 fr)), (5, .c (.p 5 0 0)), (9, .c (.i .i64 (k : Nat))), (11, .c (.s (mkS (outB (hsB H2) n ++ outQ H2 n i)))), (12, .c (.i .i64 (n : Nat))), (13, .c (.i .i64 (i : Nat)))],
              [.one (asr mo 1 2 L.length c D.length cd), .one (.row true true 97 4 L.length c fun i => if i = k then [.i .i64 (L.getD k default).fr, .i .i64 (L.getD k default).i, .i .i64 (L.getD k default).ct, .sl 4 0 4 0 H2.length c2] else rowOf (encPr nm3) L i), .one (dnR D cd), .many (fun y => if y = (L.getD k default).x then Ck.no else hasG L y), .one (fgR H2 c2), .one (.cells true (encG f))]⟩) (fun q => H2.length - q.1)
            ⟨⟨0, Nat.zero_le _⟩, [0, 1, 2, 3, 4, 5], ?_⟩ ?_
          · (repeat' first | refine And.intro ?_ ?_ | exact xeC | fail)
            all_goals first
              | exact xmP
              | (rw [outQ_0, List.append_nil])
              | skip
          rintro ⟨i, hi⟩
          have e5 : 0 + ((i : Nat) : Int).toNat = i := by omega
          have hql := outQ_len hHd2 n i hi
          have hzz : (mkS (outB (hsB H2) n ++ outQ H2 n i)).size = (outB (hsB H2) n).length + (outQ H2 n i).length := List.length_append
          have hmul1 : 4000 * H2.length * n ≤ 4000 * 65 * 64 := Nat.mul_le_mul (by omega) (by omega)
          rcases Nat.lt_or_ge i H2.length with hlt2 | hge2
          · have hqg := outQ_go (n := n) hlt2
            have hdl2 := hHd2 i hlt2
            have hzd : (mkS (H2.getD i default).d).size = (H2.getD i default).d.length := rfl
            repeat' (first | (fail_if_success (with_reducible refine xstp ?_)); first | ((with_reducible refine And.intro ?_ ?_); focus exact xoC) | (with_reducible intro hc; (try simp only [capsP, and_true] at hc); (try exact xfC)) | ((fail_if_success (with_reducible first | refine xgon ?_ | intro _)); (conv => whnf); (fail_if_success (fail_if_success (with_reducible first | refine xstp ?_ | refine xgon ?_ | intro _)))))
            rw [e3, hif]
            repeat' (first | (fail_if_success (with_reducible refine xstp ?_)); first | ((with_reducible refine And.intro (fun (hb : _ = true) => ?_) (fun (hb : _ = false) => ?_)) <;> replace hb := xnC hb <;> (try first | exact xfC | exact bff hb (by assumption) | exact bff (by assumption) hb)) | ((with_reducible refine And.intro ?_ ?_); focus exact xoC) | ((fail_if_success (with_reducible first | refine xgon ?_ | intro _)); (conv => whnf); (fail_if_success (fail_if_success (with_reducible first | refine xstp ?_ | refine xgon ?_ | intro _)))))
            rw [e3, hif]
            repeat' (first | (fail_if_success (with_reducible refine xstp ?_)); first | ((with_reducible refine And.intro (fun (hb : _ = true) => ?_) (fun (hb : _ = false) => ?_)) <;> replace hb := xnC hb <;> (try first | exact xfC | exact bff hb (by assumption) | exact bff (by assumption) hb)) | ((with_reducible refine And.intro ?_ ?_); focus exact xoC) | ((fail_if_success (with_reducible first | refine xgon ?_ | intro _)); (conv => whnf); (fail_if_success (fail_if_success (with_reducible first | refine xstp ?_ | refine xgon ?_ | intro _)))))
            · rw [e3, hif]
              repeat' (first | (fail_if_success (with_reducible refine xstp ?_)); first | ((with_reducible refine And.intro ?_ ?_); focus exact xoC) | ((fail_if_success (with_reducible first | refine xgon ?_ | intro _)); (conv => whnf); (fail_if_success (fail_if_success (with_reducible first | refine xstp ?_ | refine xgon ?_ | intro _)))))
              rw [e5, mkS_append]
              rw [if_pos hb] at hqg
              refine ⟨⟨i + 1, hlt2⟩, [0, 1, 2, 3, 4, 5], by simp only; omega, ?_⟩
              simp only [hqg]
              (repeat' first | refine And.intro ?_ ?_ | exact xeC | fail)
              all_goals first
                | exact xmP
                | (rw [List.append_assoc])
                | skip
            · rw [if_neg hb] at hqg
              refine ⟨⟨i + 1, hlt2⟩, [0, 1, 2, 3, 4, 5], by simp only; omega, ?_⟩
              simp only [hqg]
              (repeat' first | refine And.intro ?_ ?_ | exact xeC | fail)
              all_goals exact xmP
          · obtain rfl : i = H2.length := by omega
            repeat' (first | (fail_if_success (with_reducible refine xstp ?_)); first | ((with_reducible refine And.intro ?_ ?_); focus exact xoC) | (with_reducible intro hc; (try simp only [capsP, and_true] at hc); (try exact xfC)) | ((fail_if_success (with_reducible first | refine xgon ?_ | intro _)); (conv => whnf); (fail_if_success (fail_if_success (with_reducible first | refine xstp ?_ | refine xgon ?_ | intro _)))))
            rw [e3, hif]
            repeat' (first | (fail_if_success (with_reducible refine xstp ?_)); first | ((with_reducible refine And.intro (fun (hb : _ = true) => ?_) (fun (hb : _ = false) => ?_)) <;> replace hb := xnC hb <;> (try first | exact xfC | exact bff hb (by assumption) | exact bff (by assumption) hb)) | ((with_reducible refine And.intro ?_ ?_); focus exact xoC) | ((fail_if_success (with_reducible first | refine xgon ?_ | intro _)); (conv => whnf); (fail_if_success (fail_if_success (with_reducible first | refine xstp ?_ | refine xgon ?_ | intro _)))))
            have hbg := outB_go H2 n
            refine ⟨⟨n + 1, by omega⟩, [0, 1, 2, 3, 4, 5], by simp only; omega, ?_⟩
            simp only [hbg]
            (repeat' first | refine And.intro ?_ ?_ | exact xeC | fail)
            all_goals exact xmP
        · have hnn : n = f.ct.toNat := by omega
          subst hnn
          rename_i c8
          have htx : (insP (L.getD k default) f c2).x = (L.getD k default).x := rfl
          have hse := era_set L k (insP (L.getD k default) f c2)
          have hsll : (L.set k (insP (L.getD k default) f c2)).length = L.length := List.length_set
          have hiH : (insP (L.getD k default) f c2).H.length = H2.length := by rw [← hH2]; rfl
          have hprk := fun i hi => prSetK (R := [.i .i64 (L.getD k default).fr, .i .i64 (L.getD k default).i, .i .i64 (L.getD k default).ct, .sl 4 0 4 0 H2.length c2]) hN.nd hk htx (by rw [← hiH]; rfl) i hi
          refine cH15uD2 (σ := [.whole 0, .whole 1, .name 7, .name 3, .name 4]) (nl := []) (cwithout mo (L.getD k default).x (L.set k (insP (L.getD k default) f c2)) c (D.length + 1) c8 k (by omega) (by omega)) ?_ (hle := by (repeat' first | refine And.intro ?_ ?_ | exact xeC | fail) <;> (first | exact xmP | exact hsll | exact hsll.symm | exact Nat.le_of_eq hsll | exact Nat.le_of_eq hsll.symm | (intro i hi; exact (hprk i (by omega)).trans (rowK_gen (fun x => rfl) rfl _ _ i).symm) | (intro i hi; dsimp only; rw [rowK_gen (fun x => rfl) rfl]; exact encK_bel rfl _ _)))
          rw [hse]
          rintro v h' ⟨c9, rfl, rfl⟩ hcaps
          refine rH15uD0 ?_
          repeat' (first | (fail_if_success (with_reducible refine xstp ?_)); first | ((fail_if_success (with_reducible first | refine xgon ?_ | intro _)); (conv => whnf); (fail_if_success (fail_if_success (with_reducible first | refine xstp ?_ | refine xgon ?_ | intro _)))))
          refine FinK.mk ⟨[0, 1, 2, 3, 8, 7, 3], _, _, ⟨L.eraseIdx k, c9, c8, rfl, hN.nd.sublist ((List.eraseIdx_sublist L k).map _), fun p hp => Nat.lt_succ_of_lt (hN.lt p (era_mem hp)), rfl, rfl⟩, ?_⟩
          (repeat' first | refine And.intro ?_ ?_ | exact xeC | fail)
          all_goals first
            | exact xmP
            | exact fun x => hasX_era hN.nd hk
            | (simp; done)
            | (intro i hi; exact prRow (fun p hp => by simp only [nmK_ne (era_ne hN.nd hk hp)]; rfl) i hi)
            | exact fun i hi => app_rowG encD D (fr, f.id) _ rfl i hi
            | skip
  · have hadd0 := fun c2 => addB_none (mo := mo) (D := D) hok hf N c2
    rw [hf, show idxR none = (-1 : Int) from rfl]
    rintro v h' ⟨rfl, rfl⟩ hcaps
    refine ret_mk3 (by (try simp only [↓List.length_cons, ↓List.length_nil, Nat.reduceAdd]); rfl) (by (try simp (maxSteps := 1000000) only [givesF, setF, updF, Fam.zeroth, Fam.rk, Ck.rk, C.rk, E.rk, T.rk, key, List.map_cons, List.map_nil, List.cons_append, List.nil_append, List.length_cons, List.length_nil, Option.map_some, Option.bind_some, Nat.reduceAdd, Nat.zero_add, Nat.add_zero, Nat.add_sub_cancel_left, Int.toNat_natCast, reps, List.all_cons, List.all_nil, C.flat, List.append_eq, Bool.not_true, Bool.and_true, Bool.or_false, Bool.or_self, Bool.not_false, List.append_nil, Bool.and_self, ↓hasG_rk, encG, map_rk_P]); rfl) (by (try simp only [givesF, setF, updF, Fam.zeroth, Fam.rk, Ck.rk, C.rk, E.rk, T.rk, key, List.map_cons, List.map_nil, List.cons_append, List.nil_append, List.length_cons, List.length_nil, Option.map_some, Option.bind_some, Nat.reduceAdd, Nat.zero_add, Nat.add_zero, Nat.add_sub_cancel_left, Int.toNat_natCast, reps, List.all_cons, List.all_nil, C.flat, List.append_eq, Bool.not_true, Bool.and_true, Bool.or_false, Bool.or_self, Bool.not_false, List.append_nil, Bool.and_self, ↓hasG_rk, encG, map_rk_P]); rfl) ?_
    repeat' (first | (fail_if_success (with_reducible refine xstp ?_)); first | ((with_reducible refine And.intro (fun (hb : _ = true) => ?_) (fun (hb : _ = false) => ?_)) <;> replace hb := xnC hb <;> (try first | exact xfC | exact bff hb (by assumption) | exact bff (by assumption) hb)) | ((fail_if_success (with_reducible first | refine xgon ?_ | intro _)); (conv => whnf); (fail_if_success (fail_if_success (with_reducible first | refine xstp ?_ | refine xgon ?_ | intro _)))))
    refine cH15uD2 (σ := [.whole 0, .name 1, .whole 2]) (nl := []) (cdone mo L.length c D cd (fr, f.id) (by omega)) ?_ (hle := by (repeat' first | refine And.intro ?_ ?_ | exact xeC | fail) <;> exact xmP)
    rintro v h' ⟨rfl, rfl⟩ hcaps
    refine rH15uD1 ?_
    repeat' (first | (fail_if_success (with_reducible refine xstp ?_)); first | ((with_reducible refine And.intro (fun (hb : _ = true) => ?_) (fun (hb : _ = false) => ?_)) <;> replace hb := xnC hb <;> (try first | exact xfC | exact bff hb (by assumption) | exact bff (by assumption) hb)) | ((with_reducible refine And.intro ?_ ?_); focus exact xoC) | ((with_reducible refine Or.inl ⟨?_, ?_, ?_⟩); (focus rfl); focus exact xaC) | (with_reducible intro hc; (try simp only [capsP, and_true] at hc); (try exact xfC)) | ((fail_if_success (with_reducible first | refine xgon ?_ | intro _)); (conv => whnf); (fail_if_success (fail_if_success (with_reducible first | refine xstp ?_ | refine xgon ?_ | intro _)))))
    · skip
      have hadd : addB mo (L.map abP) D fr f = (L.map abP, D, [], false, 0) := by (rw [hadd0 0]; exact if_pos (by assumption))
      rw [hadd]
      refine FinK.mk ⟨[0, 1, 2, 3, 1, 2, 3], _, _, ⟨L, c, cd, rfl, hN.nd, fun p hp => Nat.lt_succ_of_lt (hN.lt p hp), rfl, rfl⟩, ?_⟩
      (repeat' first | refine And.intro ?_ ?_ | exact xeC | fail)
      all_goals first
        | exact fun i hi => rfl
        | exact xmH
    all_goals have hadd0 := fun c2 => (hadd0 c2).trans (if_neg (by assumption))
    all_goals have eL : 0 + (((L.length + 1 : Nat) : Int) - 1).toNat = L.length := by omega
    all_goals have eL2 : 0 + ((L.length : Nat) : Int).toNat = L.length := by omega
    all_goals have hap : ∀ (A B : Nat → List C), appF L.length A 0 B L.length = B 0 := fun A B => by unfold appF; rw [if_neg (Nat.lt_irrefl _), Nat.sub_self]
    all_goals have hif : ∀ (A : List C) (B : Nat → List C), (fun i => if i = L.length then A else B i) L.length = A := fun A B => if_pos rfl
    · have hct1 : 1 < f.ct := by omega
      have hadd := fun c2 => (hadd0 c2).trans (if_pos hct1)
      have hL1 := List.length_eraseIdx_le L 0
      have hN1 : Nmd N (L.eraseIdx 0) := ⟨hN.nd.sublist ((List.eraseIdx_sublist L 0).map _), fun p hp => hN.lt p (era_mem hp)⟩
      have hL0 : 0 < L.length := by omega
      refine cH15uD2 (σ := [.whole 0, .whole 1, .name 2, .name 3, .name 4]) (nl := []) (cwithout mo N L c D.length cd 0 (by omega) (by omega)) ?_ (hle := by (repeat' first | refine And.intro ?_ ?_ | exact xeC | fail) <;> (first | exact xmP | (intro i hi; exact (rowK_3 hN (fun x => rfl) i hi)) | (intro i hi; dsimp only; rw [← rowK_3 hN (fun x => rfl) i hi]; rfl)))
      rintro v h' ⟨c9, rfl, rfl⟩ hcaps
      refine rH15uD0 ?_
      have hlX := fun (c2 M x : Nat) (h : x ≠ N) => hasG_leX (σ := [0, 1, 2, 3, 7, 2, .adopt 3 N 9]) (N' := 0) (M := M) (c4 := c2) (fr := fr) (f := f) hN hL0 h
      generalize L.eraseIdx 0 = L1 at *
      have eL : 0 + (((L1.length + 1 : Nat) : Int) - 1).toNat = L1.length := by omega
      have hap : ∀ (A B : Nat → List C), appF L1.length A 0 B L1.length = B 0 := fun A B => by unfold appF; rw [if_neg (Nat.lt_irrefl _), Nat.sub_self]
      have hif : ∀ (A : List C) (B : Nat → List C), (fun i => if i = L1.length then A else B i) L1.length = A := fun A B => if_pos rfl
      repeat' (first | (fail_if_success (with_reducible refine xstp ?_)); first | ((with_reducible refine And.intro ?_ ?_); focus exact xoC) | ((with_reducible refine Or.inl ⟨?_, ?_, ?_⟩); (focus rfl); focus exact xaC) | (with_reducible intro hc; (try simp only [capsP, and_true] at hc); (try exact xfC)) | ((fail_if_success (with_reducible first | refine xgon ?_ | intro _)); (conv => whnf); (fail_if_success (fail_if_success (with_reducible first | refine xstp ?_ | refine xgon ?_ | intro _)))))
      rename_i c3
      rw [eL, hap]
      repeat' (first | (fail_if_success (with_reducible refine xstp ?_)); first | ((with_reducible refine And.intro ?_ ?_); focus exact xoC) | (with_reducible intro hc; (try simp only [capsP, and_true] at hc); (try exact xfC)) | ((fail_if_success (with_reducible first | refine xgon ?_ | intro _)); (conv => whnf); (fail_if_success (fail_if_success (with_reducible first | refine xstp ?_ | refine xgon ?_ | intro _)))))
      rename_i c2
      rw [eL, hap]
      repeat' (first | (fail_if_success (with_reducible refine xstp ?_)); first | ((with_reducible refine And.intro ?_ ?_); focus exact xoC) | ((fail_if_success (with_reducible first | refine xgon ?_ | intro _)); (conv => whnf); (fail_if_success (fail_if_success (with_reducible first | refine xstp ?_ | refine xgon ?_ | intro _)))))
      rw [eL, hif]
      repeat' (first | (fail_if_success (with_reducible refine xstp ?_)); first | ((with_reducible refine And.intro (fun (hb : _ = true) => ?_) (fun (hb : _ = false) => ?_)) <;> replace hb := xnC hb <;> (try first | exact xfC | exact bff hb (by assumption) | exact bff (by assumption) hb)) | ((fail_if_success (with_reducible first | refine xgon ?_ | intro _)); (conv => whnf); (fail_if_success (fail_if_success (with_reducible first | refine xstp ?_ | refine xgon ?_ | intro _)))))
      have hadd := hadd c2
      rw [if_pos (by assumption)] at hadd
      rw [hadd]
      refine FinK.mk ⟨[0, 1, 2, 3, 7, 2, .adopt 3 N 9], _, _, ⟨L1 ++ [newP N fr f c2], c3, cd, rfl, ?_, ?_, rfl, rfl⟩, ?_⟩
      · rw [List.map_append, List.nodup_append]
        refine ⟨hN1.nd, by simp, fun a ha b hb => ?_⟩
        obtain ⟨p, hp, rfl⟩ := List.mem_map.1 ha
        have := hN1.lt p hp
        simp [newP] at hb
        omega
      · intro p hp
        rcases List.mem_append.1 hp with h | h
        · exact Nat.lt_succ_of_lt (hN1.lt p h)
        · rw [List.mem_singleton.1 h]; exact Nat.lt_succ_self N
      (repeat' first | refine And.intro ?_ ?_ | exact xeC | fail)
      all_goals first
        | exact xmP
        | (simp; done)
        | exact fun i hi => prNewG (G := 9) (fun p hp => by simp only [nmK_ne (Nat.ne_of_lt (hN1.lt p hp)), key, if_neg (Nat.ne_of_lt (hN1.lt p hp))]) (by simp [key]) (by simp [newP]) i (by simpa using hi)
        | exact fun x hx => hlX c2 _ x hx
        | skip
      refine hasG_leV hN1 ?_
      refine ⟨rfl, rfl, rfl, rfl, Nat.le_refl _, rfl, fun i hi => by
        obtain rfl : i = 0 := by simpa [newP] using hi
        rfl, ?_⟩
      (repeat' first | refine And.intro ?_ ?_ | exact xeC | fail)
      all_goals exact xmP
    · skip
      rename_i c3
      rw [eL, hap]
      repeat' (first | (fail_if_success (with_reducible refine xstp ?_)); first | ((with_reducible refine And.intro ?_ ?_); focus exact xoC) | (with_reducible intro hc; (try simp only [capsP, and_true] at hc); (try exact xfC)) | ((fail_if_success (with_reducible first | refine xgon ?_ | intro _)); (conv => whnf); (fail_if_success (fail_if_success (with_reducible first | refine xstp ?_ | refine xgon ?_ | intro _)))))
      rename_i c2
      rw [eL, hap]
      repeat' (first | (fail_if_success (with_reducible refine xstp ?_)); first | ((with_reducible refine And.intro ?_ ?_); focus exact xoC) | ((fail_if_success (with_reducible first | refine xgon ?_ | intro _)); (conv => whnf); (fail_if_success (fail_if_success (with_reducible first | refine xstp ?_ | refine xgon ?_ | intro _)))))
      rw [eL, hif]
      repeat' (first | (fail_if_success (with_reducible refine xstp ?_)); first | ((with_reducible refine And.intro (fun (hb : _ = true) => ?_) (fun (hb : _ = false) => ?_)) <;> replace hb := xnC hb <;> (try first | exact xfC | exact bff hb (by assumption) | exact bff (by assumption) hb)) | ((fail_if_success (with_reducible first | refine xgon ?_ | intro _)); (conv => whnf); (fail_if_success (fail_if_success (with_reducible first | refine xstp ?_ | refine xgon ?_ | intro _)))))
      have hct1 : f.ct = 1 := by omega
      have hix0 : f.ix = 0 := by omega
      have hadd := hadd0 0
      rw [if_neg (show ¬ 1 < f.ct by omega)] at hadd
      rw [hadd]
      obtain ⟨H2, hH2⟩ : ∃ H2 : List Fg, H2 = [f] := ⟨_, rfl⟩
      have hsl : H2.length = 1 := by rw [hH2]; rfl
      have hHl2 : H2.length ≤ 65 := by omega
      have hHd2 : ∀ i, i < H2.length → (H2.getD i default).d.length ≤ 4000 := fun i hi => by
        obtain rfl : i = 0 := by omega
        rw [hH2]
        exact hokf.2.2.2
      have hrow : ∀ i, i < H2.length → (fun i => chunkOf 4 [.i .i64 f.id, .i .i64 f.ix, .i .i64 f.ct, .s (mkS f.d)] (0 + i)) i = rowOf encG H2 i := fun i hi => by
        obtain rfl : i = 0 := by omega
        rw [hH2]
        rfl
      have hrow2 := fun i (hi : i < L.length + 1) => prN2 (N := 0) (c4 := c2) (L := L) (fr := fr) (f := f) (B := chunkOf 4 [.i .i64 fr, .i .i64 f.id, .i .i64 f.ct, .nils]) (H2 := H2) hsl i hi
      have hrow3 := True.intro
      have hrow4 := True.intro
      refine LoopK.mk' {n : Nat // (n : Int) ≤ f.ct}
        (fun ⟨n, _⟩ => ⟨[(0, .c (.p 0 0 0)), (1, .c (.i .i64 fr)), (5, .c (.p 5 0 0)), (9, .c (.i .i64 (L.length : Nat))), (11, .c (.s (mkS (outB (hsB H2) n)))), (12, .c (.i .i64 (n : Nat)))],
          [.one (asr mo 6 2 (L.length + 1) c3 D.length cd), .one .no, .one (dnR D cd), .many (hasG L), .one (fgR H2 c2), .one (.cells true (encG f)), .one (.row true true 97 4 (L.length + 1) c3 fun i => if i = L.length then [.i .i64 fr, .i .i64 f.id, .i .i64 f.ct, .sl 4 0 4 0 H2.length c2] else rowOf (encPr nm3) L i)]⟩) (fun q => f.ct.toNat - q.1)
        ⟨⟨0, by omega⟩, [0, 1, 2, 3, 8, 4, 6], ?_⟩ ?_
      · (repeat' first | refine And.intro ?_ ?_ | exact xeC | fail)
        all_goals first
          | exact xmP
          | exact hrow
          | exact hrow2
          | exact hrow3
          | exact hrow4
          | (intro i hi; dsimp only; rw [hsl]; split <;> rfl)
          | omega
          | skip
      rintro ⟨n, hn⟩
      have hol := outB_len hHd2 n
      have hif : ∀ (A : List C) (B : Nat → List C), (fun i => if i = L.length then A else B i) L.length = A := fun A B => if_pos rfl
      repeat' (first | (fail_if_success (with_reducible refine xstp ?_)); first | ((with_reducible refine And.intro (fun (hb : _ = true) => ?_) (fun (hb : _ = false) => ?_)) <;> replace hb := xnC hb <;> (try first | exact xfC | exact bff hb (by assumption) | exact bff (by assumption) hb)) | ((with_reducible refine And.intro ?_ ?_); focus exact xoC) | ((with_reducible refine Or.inl ⟨?_, ?_, ?_⟩); (focus rfl); focus exact xaC) | (with_reducible intro hc; (try simp only [capsP, and_true] at hc); (try exact xfC)) | ((fail_if_success (with_reducible first | refine xgon ?_ | intro _)); (conv => whnf); (fail_if_success (fail_if_success (with_reducible first | refine xstp ?_ | refine xgon ?_ | intro _)))))
      · refine LoopK.mk' {i : Nat // i ≤ H2.length}
          (fun ⟨i, _⟩ => ⟨[(0, .c (.p 0 0 0)), (1, .c (.i .i64 fr)), (5, .c (.p 5 0 0)), (9, .c (.i .i64 (L.length : Nat))), (11, .c (.s (mkS (outB (hsB H2) n ++ outQ H2 n i)))), (12, .c (.i .i64 (n : Nat))), (13, .c (.i .i64 (i : Nat)))],
            [.one (asr mo 6 2 (L.length + 1) c3 D.length cd), .one .no, .one (dnR D cd), .many (hasG L), .one (fgR H2 c2), .one (.cells true (encG f)), .one (.row true true 97 4 (L.length + 1) c3 fun i => if i = L.length then [.i .i64 fr, .i .i64 f.id, .i .i64 f.ct, .sl 4 0 4 0 H2.length c2] else rowOf (encPr nm3) L i)]⟩) (fun q => H2.length - q.1)
          ⟨⟨0, Nat.zero_le _⟩, [0, 1, 2, 3, 4, 5, 6], ?_⟩ ?_
        · (repeat' first | refine And.intro ?_ ?_ | exact xeC | fail)
          all_goals first
            | exact xmP
            | (rw [outQ_0, List.append_nil])
            | skip
        rintro ⟨i, hi⟩
        have e5 : 0 + ((i : Nat) : Int).toNat = i := by omega
        have hql := outQ_len hHd2 n i hi
        have hzz : (mkS (outB (hsB H2) n ++ outQ H2 n i)).size = (outB (hsB H2) n).length + (outQ H2 n i).length := List.length_append
        have hmul1 : 4000 * H2.length * n ≤ 4000 * 65 * 64 := Nat.mul_le_mul (by omega) (by omega)
        rcases Nat.lt_or_ge i H2.length with hlt2 | hge2
        · have hqg := outQ_go (n := n) hlt2
          have hdl2 := hHd2 i hlt2
          have hzd : (mkS (H2.getD i default).d).size = (H2.getD i default).d.length := rfl
          repeat' (first | (fail_if_success (with_reducible refine xstp ?_)); first | ((with_reducible refine And.intro ?_ ?_); focus exact xoC) | (with_reducible intro hc; (try simp only [capsP, and_true] at hc); (try exact xfC)) | ((fail_if_success (with_reducible first | refine xgon ?_ | intro _)); (conv => whnf); (fail_if_success (fail_if_success (with_reducible first | refine xstp ?_ | refine xgon ?_ | intro _)))))
          rw [eL2, hif]
          repeat' (first | (fail_if_success (with_reducible refine xstp ?_)); first | ((with_reducible refine And.intro (fun (hb : _ = true) => ?_) (fun (hb : _ = false) => ?_)) <;> replace hb := xnC hb <;> (try first | exact xfC | exact bff hb (by assumption) | exact bff (by assumption) hb)) | ((with_reducible refine And.intro ?_ ?_); focus exact xoC) | ((fail_if_success (with_reducible first | refine xgon ?_ | intro _)); (conv => whnf); (fail_if_success (fail_if_success (with_reducible first | refine xstp ?_ | refine xgon ?_ | intro _)))))
          rw [eL2, hif]
          repeat' (first | (fail_if_success (with_reducible refine xstp ?_)); first | ((with_reducible refine And.intro (fun (hb : _ = true) => ?_) (fun (hb : _ = false) => ?_)) <;> replace hb := xnC hb <;> (try first | exact xfC | exact bff hb (by assumption) | exact bff (by assumption) hb)) | ((with_reducible refine And.intro ?_ ?_); focus exact xoC) | ((fail_if_success (with_reducible first | refine xgon ?_ | intro _)); (conv => whnf); (fail_if_success (fail_if_success (with_reducible first | refine xstp ?_ | refine xgon ?_ | intro _)))))
          · rw [eL2, hif]
            repeat' (first | (fail_if_success (with_reducible refine xstp ?_)); first | ((with_reducible refine And.intro ?_ ?_); focus exact xoC) | ((fail_if_success (with_reducible first | refine xgon ?_ | intro _)); (conv => whnf); (fail_if_success (fail_if_success (with_reducible first | refine xstp ?_ | refine xgon ?_ | intro _)))))
            rw [e5, mkS_append]
            rw [if_pos hb] at hqg
            refine ⟨⟨i + 1, hlt2⟩, [0, 1, 2, 3, 4, 5, 6], by simp only; omega, ?_⟩
            simp only [hqg]
            (repeat' first | refine And.intro ?_ ?_ | exact xeC | fail)
            all_goals first
              | exact xmP
              | (rw [List.append_assoc])
              | skip
          · rw [if_neg hb] at hqg
            refine ⟨⟨i + 1, hlt2⟩, [0, 1, 2, 3, 4, 5, 6], by simp only; omega, ?_⟩
            simp only [hqg]
            (repeat' first | refine And.intro ?_ ?_ | exact xeC | fail)
            all_goals exact xmP
        · obtain rfl : i = H2.length := by omega
          repeat' (first | (fail_if_success (with_reducible refine xstp ?_)); first | ((with_reducible refine And.intro ?_ ?_); focus exact xoC) | (with_reducible intro hc; (try simp only [capsP, and_true] at hc); (try exact xfC)) | ((fail_if_success (with_reducible first | refine xgon ?_ | intro _)); (conv => whnf); (fail_if_success (fail_if_success (with_reducible first | refine xstp ?_ | refine xgon ?_ | intro _)))))
          rw [eL2, hif]
          repeat' (first | (fail_if_success (with_reducible refine xstp ?_)); first | ((with_reducible refine And.intro (fun (hb : _ = true) => ?_) (fun (hb : _ = false) => ?_)) <;> replace hb := xnC hb <;> (try first | exact xfC | exact bff hb (by assumption) | exact bff (by assumption) hb)) | ((with_reducible refine And.intro ?_ ?_); focus exact xoC) | ((fail_if_success (with_reducible first | refine xgon ?_ | intro _)); (conv => whnf); (fail_if_success (fail_if_success (with_reducible first | refine xstp ?_ | refine xgon ?_ | intro _)))))
          have hbg := outB_go H2 n
          refine ⟨⟨n + 1, by omega⟩, [0, 1, 2, 3, 4, 5, 6], by simp only; omega, ?_⟩
          simp only [hbg]
          (repeat' first | refine And.intro ?_ ?_ | exact xeC | fail)
          all_goals exact xmP
      · have hnn : n = f.ct.toNat := by omega
        subst hnn
        rename_i c8
        have hel : (L ++ [newP N fr f c2]).eraseIdx L.length = L := by
          rw [List.eraseIdx_append_of_length_le (Nat.le_refl _), Nat.sub_self]
          simp
        have hll : (L ++ [newP N fr f c2]).length = L.length + 1 := by simp
        have hprk := fun i hi => prNewK (c4 := c2) (fr := fr) (f := f) hN hsl i hi
        refine cH15uD2 (σ := [.whole 0, .whole 6, .name 8, .name 3, .name 4]) (nl := []) (cwithout mo N (L ++ [newP N fr f c2]) c3 (D.length + 1) c8 L.length (by omega) (by omega)) ?_ (hle := by (repeat' first | refine And.intro ?_ ?_ | exact xeC | fail) <;> (first | exact xmP | exact hll | exact hll.symm | exact Nat.le_of_eq hll | exact Nat.le_of_eq hll.symm | (intro i hi; exact (hprk i (by omega)).trans (rowK_gen (fun x => rfl) rfl _ _ i).symm) | (intro i hi; dsimp only; rw [rowK_gen (fun x => rfl) rfl]; exact encK_bel rfl _ _)))
        rw [hel]
        rintro v h' ⟨c9, rfl, rfl⟩ hcaps
        refine rH15uD0 ?_
        repeat' (first | (fail_if_success (with_reducible refine xstp ?_)); first | ((fail_if_success (with_reducible first | refine xgon ?_ | intro _)); (conv => whnf); (fail_if_success (fail_if_success (with_reducible first | refine xstp ?_ | refine xgon ?_ | intro _)))))
        have hout : outB (hsB H2) f.ct.toNat = f.d := by
          rw [hH2, hct1]
          simp [outB, hsB, hix0, List.range_succ]
        rw [hout]
        refine FinK.mk ⟨[0, 1, 2, 3, 9, 8, 3], _, _, ⟨L, c9, c8, rfl, hN.nd, fun p hp => Nat.lt_succ_of_lt (hN.lt p hp), rfl, rfl⟩, ?_⟩
        (repeat' first | refine And.intro ?_ ?_ | exact xeC | fail)
        all_goals first
          | exact xmP
          | (simp; done)
          | (intro i hi; exact prRow (fun p hp => by simp only [nmK_ne (Nat.ne_of_lt (hN.lt p hp))]; rfl) i hi)
          | exact fun i hi => app_rowG encD D (fr, f.id) _ rfl i hi
          | skip
        all_goals trace_state
    · skip
      rename_i c3
      rw [eL, hap]
      repeat' (first | (fail_if_success (with_reducible refine xstp ?_)); first | ((with_reducible refine And.intro ?_ ?_); focus exact xoC) | (with_reducible intro hc; (try simp only [capsP, and_true] at hc); (try exact xfC)) | ((fail_if_success (with_reducible first | refine xgon ?_ | intro _)); (conv => whnf); (fail_if_success (fail_if_success (with_reducible first | refine xstp ?_ | refine xgon ?_ | intro _)))))
      rename_i c2
      rw [eL, hap]
      repeat' (first | (fail_if_success (with_reducible refine xstp ?_)); first | ((with_reducible refine And.intro ?_ ?_); focus exact xoC) | ((fail_if_success (with_reducible first | refine xgon ?_ | intro _)); (conv => whnf); (fail_if_success (fail_if_success (with_reducible first | refine xstp ?_ | refine xgon ?_ | intro _)))))
      rw [eL, hif]
      repeat' (first | (fail_if_success (with_reducible refine xstp ?_)); first | ((with_reducible refine And.intro (fun (hb : _ = true) => ?_) (fun (hb : _ = false) => ?_)) <;> replace hb := xnC hb <;> (try first | exact xfC | exact bff hb (by assumption) | exact bff (by assumption) hb)) | ((fail_if_success (with_reducible first | refine xgon ?_ | intro _)); (conv => whnf); (fail_if_success (fail_if_success (with_reducible first | refine xstp ?_ | refine xgon ?_ | intro _)))))
      · have hct1 : 1 < f.ct := by omega
        have hadd := hadd0 c2
        rw [if_pos hct1, if_neg (show ¬ mo ≤ (L.length : Int) by omega)] at hadd
        rw [hadd]
        refine FinK.mk ⟨[0, 1, 2, 3, 6, 2, .adopt 3 N 8], _, _, ⟨L ++ [newP N fr f c2], c3, cd, rfl, ?_, ?_, rfl, rfl⟩, ?_⟩
        · rw [List.map_append, List.nodup_append]
          refine ⟨hN.nd, by simp, fun a ha b hb => ?_⟩
          obtain ⟨p, hp, rfl⟩ := List.mem_map.1 ha
          have := hN.lt p hp
          simp [newP] at hb
          omega
        · intro p hp
          rcases List.mem_append.1 hp with h | h
          · exact Nat.lt_succ_of_lt (hN.lt p h)
          · rw [List.mem_singleton.1 h]; exact Nat.lt_succ_self N
        (repeat' first | refine And.intro ?_ ?_ | exact xeC | fail)
        all_goals first
          | exact xmP
          | (simp; done)
          | exact fun i hi => prNew (G := 8) hN (fun x hx => by simp [key, hx]) (by simp [key]) (by simp [newP]) i (by simpa using hi)
          | exact fun x hx => hasG_leW hx
          | skip
        refine hasG_leV hN ?_
        refine ⟨rfl, rfl, rfl, rfl, Nat.le_refl _, rfl, fun i hi => by
          obtain rfl : i = 0 := by simpa [newP] using hi
          rfl, ?_⟩
        (repeat' first | refine And.intro ?_ ?_ | exact xeC | fail)
        all_goals exact xmP
      · skip
        have hct1 : f.ct = 1 := by omega
        have hix0 : f.ix = 0 := by omega
        have hadd := hadd0 0
        rw [if_neg (show ¬ 1 < f.ct by omega)] at hadd
        rw [hadd]
        obtain ⟨H2, hH2⟩ : ∃ H2 : List Fg, H2 = [f] := ⟨_, rfl⟩
        have hsl : H2.length = 1 := by rw [hH2]; rfl
        have hHl2 : H2.length ≤ 65 := by omega
        have hHd2 : ∀ i, i < H2.length → (H2.getD i default).d.length ≤ 4000 := fun i hi => by
          obtain rfl : i = 0 := by omega
          rw [hH2]
          exact hokf.2.2.2
        have hrow : ∀ i, i < H2.length → (fun i => chunkOf 4 [.i .i64 f.id, .i .i64 f.ix, .i .i64 f.ct, .s (mkS f.d)] (0 + i)) i = rowOf encG H2 i := fun i hi => by
          obtain rfl : i = 0 := by omega
          rw [hH2]
          rfl
        have hrow2 := fun i (hi : i < L.length + 1) => prN2 (N := 0) (c4 := c2) (L := L) (fr := fr) (f := f) (B := chunkOf 4 [.i .i64 fr, .i .i64 f.id, .i .i64 f.ct, .nils]) (H2 := H2) hsl i hi
        have hrow3 := True.intro
        have hrow4 := True.intro
        refine LoopK.mk' {n : Nat // (n : Int) ≤ f.ct}
          (fun ⟨n, _⟩ => ⟨[(0, .c (.p 0 0 0)), (1, .c (.i .i64 fr)), (5, .c (.p 5 0 0)), (9, .c (.i .i64 (L.length : Nat))), (11, .c (.s (mkS (outB (hsB H2) n)))), (12, .c (.i .i64 (n : Nat)))],
            [.one (asr mo 6 2 (L.length + 1) c3 D.length cd), .one .no, .one (dnR D cd), .many (hasG L), .one (fgR H2 c2), .one (.cells true (encG f)), .one (.row true true 97 4 (L.length + 1) c3 fun i => if i = L.length then [.i .i64 fr, .i .i64 f.id, .i .i64 f.ct, .sl 4 0 4 0 H2.length c2] else rowOf (encPr nm3) L i)]⟩) (fun q => f.ct.toNat - q.1)
          ⟨⟨0, by omega⟩, [0, 1, 2, 3, 8, 4, 6], ?_⟩ ?_
        · (repeat' first | refine And.intro ?_ ?_ | exact xeC | fail)
          all_goals first
            | exact xmP
            | exact hrow
            | exact hrow2
            | exact hrow3
            | exact hrow4
            | (intro i hi; dsimp only; rw [hsl]; split <;> rfl)
            | omega
            | skip
        rintro ⟨n, hn⟩
        have hol := outB_len hHd2 n
        have hif : ∀ (A : List C) (B : Nat → List C), (fun i => if i = L.length then A else B i) L.length = A := fun A B => if_pos rfl
        repeat' (first | (fail_if_success (with_reducible refine xstp ?_)); first | ((with_reducible refine And.intro (fun (hb : _ = true) => ?_) (fun (hb : _ = false) => ?_)) <;> replace hb := xnC hb <;> (try first | exact xfC | exact bff hb (by assumption) | exact bff (by assumption) hb)) | ((with_reducible refine And.intro ?_ ?_); focus exact xoC) | ((with_reducible refine Or.inl ⟨?_, ?_, ?_⟩); (focus rfl); focus exact xaC) | (with_reducible intro hc; (try simp only [capsP, and_true] at hc); (try exact xfC)) | ((fail_if_success (with_reducible first | refine xgon ?_ | intro _)); (conv => whnf); (fail_if_success (fail_if_success (with_reducible first | refine xstp ?_ | refine xgon ?_ | intro _)))))
        · refine LoopK.mk' {i : Nat // i ≤ H2.length}
            (fun ⟨i, _⟩ => ⟨[(0, .c (.p 0 0 0)), (1, .c (.i .i64 fr)), (5, .c (.p 5 0 0)), (9, .c (.i .i64 (L.length : Nat))), (11, .c (.s (mkS (outB (hsB H2) n ++ outQ H2 n i)))), (12, .c (.i .i64 (n : Nat))), (13, .c (.i .i64 (i : Nat)))],
              [.one (asr mo 6 2 (L.length + 1) c3 D.length cd), .one .no, .one (dnR D cd), .many (hasG L), .one (fgR H2 c2), .one (.cells true (encG f)), .one (.row true true 97 4 (L.length + 1) c3 fun i => if i = L.length then [.i .i64 fr, .i .i64 f.id, .i .i64 f.ct, .sl 4 0 4 0 H2.length c2] else rowOf (encPr nm3) L i)]⟩) (fun q => H2.length - q.1)
            ⟨⟨0, Nat.zero_le _⟩, [0, 1, 2, 3, 4, 5, 6], ?_⟩ ?_
          · (repeat' first | refine And.intro ?_ ?_ | exact xeC | fail)
            all_goals first
              | exact xmP
              | (rw [outQ_0, List.append_nil])
              | skip
          rintro ⟨i, hi⟩
          have e5 : 0 + ((i : Nat) : Int).toNat = i := by omega
          have hql := outQ_len hHd2 n i hi
          have hzz : (mkS (outB (hsB H2) n ++ outQ H2 n i)).size = (outB (hsB H2) n).length + (outQ H2 n i).length := List.length_append
          have hmul1 : 4000 * H2.length * n ≤ 4000 * 65 * 64 := Nat.mul_le_mul (by omega) (by omega)
          rcases Nat.lt_or_ge i H2.length with hlt2 | hge2
          · have hqg := outQ_go (n := n) hlt2
            have hdl2 := hHd2 i hlt2
            have hzd : (mkS (H2.getD i default).d).size = (H2.getD i default).d.length := rfl
            repeat' (first | (fail_if_success (with_reducible refine xstp ?_)); first | ((with_reducible refine And.intro ?_ ?_); focus exact xoC) | (with_reducible intro hc; (try simp only [capsP, and_true] at hc); (try exact xfC)) | ((fail_if_success (with_reducible first | refine xgon ?_ | intro _)); (conv => whnf); (fail_if_success (fail_if_success (with_reducible first | refine xstp ?_ | refine xgon ?_ | intro _)))))
            rw [eL2, hif]
            repeat' (first | (fail_if_success (with_reducible refine xstp ?_)); first | ((with_reducible refine And.intro (fun (hb : _ = true) => ?_) (fun (hb : _ = false) => ?_)) <;> replace hb := xnC hb <;> (try first | exact xfC | exact bff hb (by assumption) | exact bff (by assumption) hb)) | ((with_reducible refine And.intro ?_ ?_); focus exact xoC) | ((fail_if_success (with_reducible first | refine xgon ?_ | intro _)); (conv => whnf); (fail_if_success (fail_if_success (with_reducible first | refine xstp ?_ | refine xgon ?_ | intro _)))))
            rw [eL2, hif]
            repeat' (first | (fail_if_success (with_reducible refine xstp ?_)); first | ((with_reducible refine And.intro (fun (hb : _ = true) => ?_) (fun (hb : _ = false) => ?_)) <;> replace hb := xnC hb <;> (try first | exact xfC | exact bff hb (by assumption) | exact bff (by assumption) hb)) | ((with_reducible refine And.intro ?_ ?_); focus exact xoC) | ((fail_if_success (with_reducible first | refine xgon ?_ | intro _)); (conv => whnf); (fail_if_success (fail_if_success (with_reducible first | refine xstp ?_ | refine xgon ?_ | intro _)))))
            · rw [eL2, hif]
              repeat' (first | (fail_if_success (with_reducible refine xstp ?_)); first | ((with_reducible refine And.intro ?_ ?_); focus exact xoC) | ((fail_if_success (with_reducible first | refine xgon ?_ | intro _)); (conv => whnf); (fail_if_success (fail_if_success (with_reducible first | refine xstp ?_ | refine xgon ?_ | intro _)))))
              rw [e5, mkS_append]
              rw [if_pos hb] at hqg
              refine ⟨⟨i + 1, hlt2⟩, [0, 1, 2, 3, 4, 5, 6], by simp only; omega, ?_⟩
              simp only [hqg]
              (repeat' first | refine And.intro ?_ ?_ | exact xeC | fail)
              all_goals first
                | exact xmP
                | (rw [List.append_assoc])
                | skip
            · rw [if_neg hb] at hqg
              refine ⟨⟨i + 1, hlt2⟩, [0, 1, 2, 3, 4, 5, 6], by simp only; omega, ?_⟩
              simp only [hqg]
              (repeat' first | refine And.intro ?_ ?_ | exact xeC | fail)
              all_goals exact xmP
          · obtain rfl : i = H2.length := by omega
            repeat' (first | (fail_if_success (with_reducible refine xstp ?_)); first | ((with_reducible refine And.intro ?_ ?_); focus exact xoC) | (with_reducible intro hc; (try simp only [capsP, and_true] at hc); (try exact xfC)) | ((fail_if_success (with_reducible first | refine xgon ?_ | intro _)); (conv => whnf); (fail_if_success (fail_if_success (with_reducible first | refine xstp ?_ | refine xgon ?_ | intro _)))))
            rw [eL2, hif]
            repeat' (first | (fail_if_success (with_reducible refine xstp ?_)); first | ((with_reducible refine And.intro (fun (hb : _ = true) => ?_) (fun (hb : _ = false) => ?_)) <;> replace hb := xnC hb <;> (try first | exact xfC | exact bff hb (by assumption) | exact bff (by assumption) hb)) | ((with_reducible refine And.intro ?_ ?_); focus exact xoC) | ((fail_if_success (with_reducible first | refine xgon ?_ | intro _)); (conv => whnf); (fail_if_success (fail_if_success (with_reducible first | refine xstp ?_ | refine xgon ?_ | intro _)))))
            have hbg := outB_go H2 n
            refine ⟨⟨n + 1, by omega⟩, [0, 1, 2, 3, 4, 5, 6], by simp only; omega, ?_⟩
            simp only [hbg]
            (repeat' first | refine And.intro ?_ ?_ | exact xeC | fail)
            all_goals exact xmP
        · have hnn : n = f.ct.toNat := by omega
          subst hnn
          rename_i c8
          have hel : (L ++ [newP N fr f c2]).eraseIdx L.length = L := by
            rw [List.eraseIdx_append_of_length_le (Nat.le_refl _), Nat.sub_self]
            simp
          have hll : (L ++ [newP N fr f c2]).length = L.length + 1 := by simp
          have hprk := fun i hi => prNewK (c4 := c2) (fr := fr) (f := f) hN hsl i hi
          refine cH15uD2 (σ := [.whole 0, .whole 6, .name 8, .name 3, .name 4]) (nl := []) (cwithout mo N (L ++ [newP N fr f c2]) c3 (D.length + 1) c8 L.length (by omega) (by omega)) ?_ (hle := by (repeat' first | refine And.intro ?_ ?_ | exact xeC | fail) <;> (first | exact xmP | exact hll | exact hll.symm | exact Nat.le_of_eq hll | exact Nat.le_of_eq hll.symm | (intro i hi; exact (hprk i (by omega)).trans (rowK_gen (fun x => rfl) rfl _ _ i).symm) | (intro i hi; dsimp only; rw [rowK_gen (fun x => rfl) rfl]; exact encK_bel rfl _ _)))
          rw [hel]
          rintro v h' ⟨c9, rfl, rfl⟩ hcaps
          refine rH15uD0 ?_
          repeat' (first | (fail_if_success (with_reducible refine xstp ?_)); first | ((fail_if_success (with_reducible first | refine xgon ?_ | intro _)); (conv => whnf); (fail_if_success (fail_if_success (with_reducible first | refine xstp ?_ | refine xgon ?_ | intro _)))))
          have hout : outB (hsB H2) f.ct.toNat = f.d := by
            rw [hH2, hct1]
            simp [outB, hsB, hix0, List.range_succ]
          rw [hout]
          refine FinK.mk ⟨[0, 1, 2, 3, 9, 8, 3], _, _, ⟨L, c9, c8, rfl, hN.nd, fun p hp => Nat.lt_succ_of_lt (hN.lt p hp), rfl, rfl⟩, ?_⟩
          (repeat' first | refine And.intro ?_ ?_ | exact xeC | fail)
          all_goals first
            | exact xmP
            | (simp; done)
            | (intro i hi; exact prRow (fun p hp => by simp only [nmK_ne (Nat.ne_of_lt (hN.lt p hp))]; rfl) i hi)
            | exact fun i hi => app_rowG encD D (fr, f.id) _ rfl i hi
            | skip
          all_goals trace_state
end Go.Proofs.Ytgaodeffbgppmaa


namespace Go.Proofs.Ytgaodeffbgppmaa
open Go.X
set_option linter.unusedSimpArgs false
set_option linter.unusedVariables false
theorem xmZ {p : Prop} (h : p := by first | exact xmC | exact xmP | fail) : p := h
structure Pi5 where
  (fr id ix ct : Int) (d : List UInt8)
deriving Inhabited
def encPi (p : Pi5) : List C := [.i .u8 p.fr, .i .u8 p.id, .i .i8 p.ix, .i .i8 p.ct, .s (mkS p.d)]
def okPi (p : Pi5) : Prop := (0 ≤ p.fr ∧ p.fr ≤ 255) ∧ (0 ≤ p.id ∧ p.id ≤ 255) ∧ (-128 ≤ p.ix ∧ p.ix ≤ 127) ∧ (-128 ≤ p.ct ∧ p.ct ≤ 127)
abbrev piR (l : List Pi5) (c : Nat) : Ck := .row false false 32 5 l.length c (rowOf encPi l)
set_option maxRecDepth 10000 in
theorem cAddNil (fr : Int) (f : Fg) :
    Ctr Try.prog 13 [.c .nilp, .c (.i .i64 fr), .a (encG f)] [] fun v h => v = .t [.c (.s (mkS [])), .c .ff, .c (.i .i64 6)] ∧ h = [] := by
  refine Ctr.mk' tbv mixed Try.func13 rfl rfl rfl (fun _ _ => by kernel_rfl) (by kernel_rfl) (by rfl) (by rfl) (by (repeat' first | refine And.intro ?_ ?_ | exact xeC | fail)) ?_
  repeat' (first | (fail_if_success (with_reducible refine xstp ?_)); first | (with_reducible intro hc; (try simp only [capsP, and_true] at hc); (try exact xfC)) | ((fail_if_success (with_reducible first | refine xgon ?_ | intro _)); (conv => whnf); (fail_if_success (fail_if_success (with_reducible first | refine xstp ?_ | refine xgon ?_ | intro _)))))
  refine FinK.mk ⟨[], _, _, ⟨rfl, rfl⟩, ?_⟩
  (repeat' first | refine And.intro ?_ ?_ | exact xeC | fail)
set_option maxRecDepth 10000 in
theorem cOpenNil :
    Ctr Try.prog 15 [.c .nilp] [] fun v h => v = .c (.i .i64 0) ∧ h = [] := by
  refine Ctr.mk' tbv mixed Try.func15 rfl rfl rfl (fun _ _ => by kernel_rfl) (by kernel_rfl) (by rfl) (by rfl) (by (repeat' first | refine And.intro ?_ ?_ | exact xeC | fail)) ?_
  repeat' (first | (fail_if_success (with_reducible refine xstp ?_)); first | (with_reducible intro hc; (try simp only [capsP, and_true] at hc); (try exact xfC)) | ((fail_if_success (with_reducible first | refine xgon ?_ | intro _)); (conv => whnf); (fail_if_success (fail_if_success (with_reducible first | refine xstp ?_ | refine xgon ?_ | intro _)))))
  refine FinK.mk ⟨[], _, _, ⟨rfl, rfl⟩, ?_⟩
  (repeat' first | refine And.intro ?_ ?_ | exact xeC | fail)
theorem AOk.ab {mo : Int} {N : Nat} {J : List Nat} {L : List Tx} {dn : List (Int × Int)} (h : AOk mo N J L dn) : AbOk (L.map abT) := by
  refine ⟨by rw [List.length_map]; have := h.len; have := h.mo2; omega, fun t ht => ?_, fun t ht e he => ?_⟩
  · obtain ⟨u, hu, rfl⟩ := List.mem_map.1 ht
    have h1 := h.mlen u hu
    have h2 := (h.ct u hu).2
    rw [show (abT u).H.length = u.M.length from List.length_map _]
    omega
  · obtain ⟨u, hu, rfl⟩ := List.mem_map.1 ht
    obtain ⟨q, hq, rfl⟩ := List.mem_map.1 he
    exact h.dat u hu q hq
/-- Both assemblers behind some pieces. -/
structure Gi where
  (i N : Nat) (J : List Nat) (L : List Tx) (dn : List (Int × Int)) (c cd : Nat) (R : List Pr) (D : List (Int × Int)) (cr dr : Nat)
structure GOk (mo : Int) (z : Nat) (g : Gi) : Prop where
  i : g.i ≤ z
  a : AOk mo g.N g.J g.L g.dn
  d : DRel g.dn g.D
  r : g.L.map abT = g.R.map abP
  n : Nmd g.N g.R
  D : g.D.length ≤ g.i
  dn : g.dn.length ≤ g.i
theorem addA_dn (mo : Int) (N : Nat) (L : List Tx) (dn : List (Int × Int)) (fr : Int) (f : Fg) : (addA mo N L dn fr f).2.1.length ≤ dn.length + 1 := by
  have := remD_len dn (fr, f.id)
  unfold addA
  repeat' first | split | (simp only; omega)
theorem rH15uE0 {σ : List Sg} {H h' : List Fam} {v : T} {K : T → List Fam → Prop} {H' : List Fam} {v' : T} {N : Nat} (hk : K v' H') (hN : H.length = N := by (try simp only [↓List.length_cons, ↓List.length_nil, Nat.reduceAdd]) <;> rfl) (h : givesF σ N H σ h' = some H' := by (try simp (maxSteps := 1000000) only [givesF, setF, updF, Fam.zeroth, Fam.rk, Ck.rk, C.rk, E.rk, T.rk, key, List.map_cons, List.map_nil, List.cons_append, List.nil_append, List.length_cons, List.length_nil, Option.map_some, Option.bind_some, Nat.reduceAdd, Nat.zero_add, Nat.add_zero, Nat.add_sub_cancel_left, Int.toNat_natCast, reps, List.all_cons, List.all_nil, C.flat, List.append_eq, Bool.not_true, Bool.and_true, Bool.or_false, Bool.or_self, Bool.not_false, List.append_nil, Bool.and_self, ↓mtG_rk, ↓winO_rk, ↓hasG_rk]) <;> rfl) (hv : v.rk σ N = v' := by (try simp only [givesF, setF, updF, Fam.zeroth, Fam.rk, Ck.rk, C.rk, E.rk, T.rk, key, List.map_cons, List.map_nil, List.cons_append, List.nil_append, List.length_cons, List.length_nil, Option.map_some, Option.bind_some, Nat.reduceAdd, Nat.zero_add, Nat.add_zero, Nat.add_sub_cancel_left, Int.toNat_natCast, reps, List.all_cons, List.all_nil, C.flat, List.append_eq, Bool.not_true, Bool.and_true, Bool.or_false, Bool.or_self, Bool.not_false, List.append_nil, Bool.and_self, ↓mtG_rk, ↓winO_rk, ↓hasG_rk]) <;> rfl) : RetG σ H h' v K := ret_mk3 hN h hv hk
theorem cH15uE1 {P : Program} {F : Nat} {args : List T} {H : List Fam} {K : T → List Fam → Prop} {σ : List Sg} {nl : List Fam} {args0 : List T} {h0 : List Fam} {Q : T → List Fam → Prop} {H2 H1 : List Fam} {N n : Nat} (hc : Ctr P F args0 h0 Q) (hk : ∀ v h', Q v h' → capsP h' → RetG σ H2 h' v K) (hap : apart σ = true := by rfl) (hnl : nl.all nilB = true := by rfl) (h1 : H ++ nl = H1 := by first | exact List.append_nil _ | ((try simp only [List.cons_append, List.nil_append]) <;> rfl)) (hN : H1.length = N := by (try simp only [↓List.length_cons, ↓List.length_nil, Nat.reduceAdd]) <;> rfl) (hn : H.length = n := by (try simp only [↓List.length_cons, ↓List.length_nil, Nat.reduceAdd]) <;> rfl) (hH : givesF σ N H1 σ h0 = some H2 := by (try simp (maxSteps := 1000000) only [givesF, setF, updF, Fam.zeroth, Fam.rk, Ck.rk, C.rk, E.rk, T.rk, key, List.map_cons, List.map_nil, List.cons_append, List.nil_append, List.length_cons, List.length_nil, Option.map_some, Option.bind_some, Nat.reduceAdd, Nat.zero_add, Nat.add_zero, Nat.add_sub_cancel_left, Int.toNat_natCast, reps, List.all_cons, List.all_nil, C.flat, List.append_eq, Bool.not_true, Bool.and_true, Bool.or_false, Bool.or_self, Bool.not_false, List.append_nil, Bool.and_self, ↓mtG_rk, ↓winO_rk, ↓hasG_rk]) <;> rfl) (hle : leS n H1 σ N σ h0 (belsK N (h0.map (Fam.rk σ N)) (argsK n args (args0.map (T.rk σ N)) True)) := by repeat' first | refine And.intro ?_ ?_ | exact xeC | fail) : CallK P F args H K := CallK.mk3 hc hap hnl h1 hN hn hH hle hk
set_option maxRecDepth 10000 in
set_option maxHeartbeats 16000000 in
theorem cgathers (most : Int) (l : List Pi5) (c : Nat) (hl : l.length ≤ 9223372036854775807) (hp : ∀ p ∈ l, okPi p) :
    Ctr Try.prog 3 [.c (.i .i64 most), .c (.sl 0 0 5 0 l.length c)] [.one (piR l c)] fun v _ => v = .c .tt := by
  refine Ctr.mk' tbv mixed Try.func3 rfl rfl rfl (fun _ _ => by kernel_rfl) (by kernel_rfl) (by rfl) (by rfl) (by (repeat' first | refine And.intro ?_ ?_ | exact xeC | fail)) ?_
  repeat' (first | (fail_if_success (with_reducible refine xstp ?_)); first | ((with_reducible refine And.intro (fun (hb : _ = true) => ?_) (fun (hb : _ = false) => ?_)) <;> replace hb := xnC hb <;> (try first | exact xfC | exact bff hb (by assumption) | exact bff (by assumption) hb)) | (with_reducible intro hc; (try simp only [capsP, and_true] at hc); (try exact xfC)) | ((fail_if_success (with_reducible first | refine xgon ?_ | intro _)); (conv => whnf); (fail_if_success (fail_if_success (with_reducible first | refine xstp ?_ | refine xgon ?_ | intro _)))))
  · skip
    refine cH15uE1 (σ := []) (nl := []) (cawake) ?_
    rintro v h' ⟨rfl, rfl⟩ hcaps
    refine ret_mk3 (by (try simp only [↓List.length_cons, ↓List.length_nil, Nat.reduceAdd]); rfl) (by (try simp (maxSteps := 1000000) only [givesF, setF, updF, Fam.zeroth, Fam.rk, Ck.rk, C.rk, E.rk, T.rk, key, List.map_cons, List.map_nil, List.cons_append, List.nil_append, List.length_cons, List.length_nil, Option.map_some, Option.bind_some, Nat.reduceAdd, Nat.zero_add, Nat.add_zero, Nat.add_sub_cancel_left, Int.toNat_natCast, reps, List.all_cons, List.all_nil, C.flat, List.append_eq, Bool.not_true, Bool.and_true, Bool.or_false, Bool.or_self, Bool.not_false, List.append_nil, Bool.and_self, ↓mtG_rk, ↓winO_rk, ↓hasG_rk, encG]); rfl) (by (try simp only [givesF, setF, updF, Fam.zeroth, Fam.rk, Ck.rk, C.rk, E.rk, T.rk, key, List.map_cons, List.map_nil, List.cons_append, List.nil_append, List.length_cons, List.length_nil, Option.map_some, Option.bind_some, Nat.reduceAdd, Nat.zero_add, Nat.add_zero, Nat.add_sub_cancel_left, Int.toNat_natCast, reps, List.all_cons, List.all_nil, C.flat, List.append_eq, Bool.not_true, Bool.and_true, Bool.or_false, Bool.or_self, Bool.not_false, List.append_nil, Bool.and_self, ↓mtG_rk, ↓winO_rk, ↓hasG_rk, encG]); rfl) ?_
    repeat' (first | (fail_if_success (with_reducible refine xstp ?_)); first | ((fail_if_success (with_reducible first | refine xgon ?_ | intro _)); (conv => whnf); (fail_if_success (fail_if_success (with_reducible first | refine xstp ?_ | refine xgon ?_ | intro _)))))
    refine FinK.mk ⟨[0], _, [.one (piR l c)], rfl, ?_⟩
    (repeat' first | refine And.intro ?_ ?_ | exact xeC | fail)
  refine cH15uE1 (σ := []) (nl := []) (cNewA most) ?_
  rintro v h' ⟨rfl, rfl⟩ hcaps
  refine rH15uE0 ?_
  repeat' (first | (fail_if_success (with_reducible refine xstp ?_)); first | ((fail_if_success (with_reducible first | refine xgon ?_ | intro _)); (conv => whnf); (fail_if_success (fail_if_success (with_reducible first | refine xstp ?_ | refine xgon ?_ | intro _)))))
  refine cH15uE1 (σ := []) (nl := []) (cNewAR most) ?_
  rintro v h' ⟨rfl, rfl⟩ hcaps
  refine rH15uE0 ?_
  repeat' (first | (fail_if_success (with_reducible refine xstp ?_)); first | ((fail_if_success (with_reducible first | refine xgon ?_ | intro _)); (conv => whnf); (fail_if_success (fail_if_success (with_reducible first | refine xstp ?_ | refine xgon ?_ | intro _)))))
  have hmo : 1 ≤ max 1 (min 256 most) ∧ max 1 (min 256 most) ≤ 256 := by omega
  generalize max 1 (min 256 most) = mo at *
  have hA0 : AOk mo 0 [] [] [] := aok0 hmo.1 hmo.2
  refine LoopK.mk' {g : Gi // GOk mo l.length g}
    (fun ⟨⟨i, N, J, L, dn, c2, cd, R, D, cr, dr⟩, _⟩ => ⟨[(1, .c (.sl 0 0 5 0 l.length c)), (5, .c (.p 1 0 0)), (6, .c (.p 6 0 0)), (7, .c (.i .i64 (i : Nat)))],
      [.one (piR l c), .one (asm mo 2 3 J.length L.length c2 dn.length cd), .one (opnR 4 (J ++ idsOf L) (J.length + c2)), .one (donR dn cd), .many (txO 5 L), .many (paO L),
       .one (asr mo 7 8 R.length cr D.length dr), .one (prtR (fun x => (9, x)) R cr), .one (dnR D dr), .many (hasG R)]⟩) (fun q => l.length - q.1.i)
    ⟨⟨⟨0, 0, [], [], [], 0, 0, [], [], 0, 0⟩, ⟨Nat.zero_le _, hA0, drel_nil, rfl, ⟨by simp, fun p hp => by cases hp⟩, Nat.le_refl _, Nat.le_refl _⟩⟩, [0, 1, 2, 3, 4, 5, 6, 99, 98, 97], ?_⟩ ?_
  · (repeat' first | refine And.intro ?_ ?_ | exact xeC | fail)
    all_goals first
      | exact xmZ
      | exact fun x => nmG_nil x
      | skip
  rintro ⟨⟨i, N, J, L, dn, c2, cd, R, D, cr, dr⟩, hi, hA, hD, hR, hN, hDl, hdl⟩
  simp only at hi hA hD hR hN hDl hdl
  have e3 : 0 + ((i : Nat) : Int).toNat = i := by omega
  rcases Nat.lt_or_ge i l.length with hlt | hge
  · have hpi := hp (l.getD i default) (by rw [getD_at hlt]; exact List.getElem_mem _)
    generalize hP : l.getD i default = P at *
    obtain ⟨⟨f1, f2⟩, ⟨f3, f4⟩, ⟨f5, f6⟩, f7, f8⟩ := hpi
    have w1 : IntKind.i64.wrap P.id = P.id := by rw [IntKind.wrap_i64]; omega
    have w2 : IntKind.i64.wrap P.ix = P.ix := by rw [IntKind.wrap_i64]; omega
    have w3 : IntKind.i64.wrap P.ct = P.ct := by rw [IntKind.wrap_i64]; omega
    have hzd : (mkS P.d).size = P.d.length := rfl
    repeat' (first | (fail_if_success (with_reducible refine xstp ?_)); first | ((with_reducible refine And.intro (fun (hb : _ = true) => ?_) (fun (hb : _ = false) => ?_)) <;> replace hb := xnC hb <;> (try first | exact xfC | exact bff hb (by assumption) | exact bff (by assumption) hb)) | (with_reducible refine Both.mk ?_ ?_) | ((with_reducible refine And.intro ?_ ?_); focus exact xoC) | (with_reducible intro hc; (try simp only [capsP, and_true] at hc); (try exact xfC)) | ((fail_if_success (with_reducible first | refine xgon ?_ | intro _)); (conv => whnf); (fail_if_success (fail_if_success (with_reducible first | refine xstp ?_ | refine Both.mk ?_ ?_ | refine xgon ?_ | intro _)))))
    · skip
      refine cH15uE1 (σ := []) (nl := []) (cawake) ?_
      rintro v h' ⟨rfl, rfl⟩ hcaps
      refine ret_mk3 (by (try simp only [↓List.length_cons, ↓List.length_nil, Nat.reduceAdd]); rfl) (by (try simp (maxSteps := 1000000) only [givesF, setF, updF, Fam.zeroth, Fam.rk, Ck.rk, C.rk, E.rk, T.rk, key, List.map_cons, List.map_nil, List.cons_append, List.nil_append, List.length_cons, List.length_nil, Option.map_some, Option.bind_some, Nat.reduceAdd, Nat.zero_add, Nat.add_zero, Nat.add_sub_cancel_left, Int.toNat_natCast, reps, List.all_cons, List.all_nil, C.flat, List.append_eq, Bool.not_true, Bool.and_true, Bool.or_false, Bool.or_self, Bool.not_false, List.append_nil, Bool.and_self, ↓mtG_rk, ↓winO_rk, ↓hasG_rk, encG]); rfl) (by (try simp only [givesF, setF, updF, Fam.zeroth, Fam.rk, Ck.rk, C.rk, E.rk, T.rk, key, List.map_cons, List.map_nil, List.cons_append, List.nil_append, List.length_cons, List.length_nil, Option.map_some, Option.bind_some, Nat.reduceAdd, Nat.zero_add, Nat.add_zero, Nat.add_sub_cancel_left, Int.toNat_natCast, reps, List.all_cons, List.all_nil, C.flat, List.append_eq, Bool.not_true, Bool.and_true, Bool.or_false, Bool.or_self, Bool.not_false, List.append_nil, Bool.and_self, ↓mtG_rk, ↓winO_rk, ↓hasG_rk, encG]); rfl) ?_
      repeat' (first | (fail_if_success (with_reducible refine xstp ?_)); first | ((fail_if_success (with_reducible first | refine xgon ?_ | intro _)); (conv => whnf); (fail_if_success (fail_if_success (with_reducible first | refine xstp ?_ | refine xgon ?_ | intro _)))))
      refine FinK.mk ⟨[0], _, [.one (piR l c)], rfl, ?_⟩
      (repeat' first | refine And.intro ?_ ?_ | exact xeC | fail)
    all_goals (
      rw [e3, hP, w1, w2, w3]
      have hd40 : P.d.length ≤ 40 := by rw [hP] at hb; omega
      obtain ⟨fr, hfr⟩ : ∃ fr, fr = IntKind.i64.wrap (P.fr.tmod 10) := ⟨_, rfl⟩
      rw [← hfr]
      obtain ⟨f, hf⟩ : ∃ f : Fg, f = ⟨P.id, P.ix, P.ct, P.d⟩ := ⟨_, rfl⟩
      have hfd : f.d = P.d := by rw [hf]
      have hfe : [C.i .i64 P.id, C.i .i64 P.ix, C.i .i64 P.ct, C.s (mkS P.d)] = encG f := by rw [hf]; rfl
      rw [hfe]
      have hrel := add_rel hA hD fr f
      rw [hR] at hrel
      have hAb := hA.ab
      rw [hR] at hAb
      have hBl := addB_len mo (R.map abP) D fr f
      have hAd := hA.dn
      have hok := fun J' (hJ : ∀ j ∈ J', j < N + 1) (hl : J'.length ≤ 1) => addA_ok hA (J' := J') fr f (by omega) hJ hl
      have hdn := addA_dn mo N L dn fr f
      refine cH15uE1 (σ := [.whole 1, .whole 2, .whole 3, .whole 4, .whole 5]) (nl := []) (cAdd mo N J L dn c2 cd fr f hA) ?_ (hle := by (repeat' first | refine And.intro ?_ ?_ | exact xeC | fail) <;> exact xmZ)
      rintro v h' ⟨J', c3, cd3, hJ', hJl', rfl, rfl⟩ hcaps
      have hA' := hok J' hJ' hJl'
      clear hok
      generalize addA mo N L dn fr f = ra at *
      obtain ⟨L', dn', so, is', er⟩ := ra
      simp only at hrel hA' hdn
      refine ret_mk3 (by (try simp only [↓List.length_cons, ↓List.length_nil, Nat.reduceAdd]); rfl) (by (try simp (maxSteps := 1000000) only [givesF, setF, updF, Fam.zeroth, Fam.rk, Ck.rk, C.rk, E.rk, T.rk, key, List.map_cons, List.map_nil, List.cons_append, List.nil_append, List.length_cons, List.length_nil, Option.map_some, Option.bind_some, Nat.reduceAdd, Nat.zero_add, Nat.add_zero, Nat.add_sub_cancel_left, Int.toNat_natCast, reps, List.all_cons, List.all_nil, C.flat, List.append_eq, Bool.not_true, Bool.and_true, Bool.or_false, Bool.or_self, Bool.not_false, List.append_nil, Bool.and_self, ↓mtG_rk, ↓winO_rk, ↓hasG_rk, encG, encK, map_rk_id]); rfl) (by (try simp only [givesF, setF, updF, Fam.zeroth, Fam.rk, Ck.rk, C.rk, E.rk, T.rk, key, List.map_cons, List.map_nil, List.cons_append, List.nil_append, List.length_cons, List.length_nil, Option.map_some, Option.bind_some, Nat.reduceAdd, Nat.zero_add, Nat.add_zero, Nat.add_sub_cancel_left, Int.toNat_natCast, reps, List.all_cons, List.all_nil, C.flat, List.append_eq, Bool.not_true, Bool.and_true, Bool.or_false, Bool.or_self, Bool.not_false, List.append_nil, Bool.and_self, ↓mtG_rk, ↓winO_rk, ↓hasG_rk, encG, encK, map_rk_id]); rfl) ?_
      repeat' (first | (fail_if_success (with_reducible refine xstp ?_)); first | ((with_reducible refine And.intro ?_ ?_); focus exact xoC) | ((fail_if_success (with_reducible first | refine xgon ?_ | intro _)); (conv => whnf); (fail_if_success (fail_if_success (with_reducible first | refine xstp ?_ | refine xgon ?_ | intro _)))))
      rw [e3, hP, ← hfr]
      refine cH15uE1 (σ := [.whole 6, .whole 7, .whole 8, .whole 9]) (nl := []) (cAddR mo N R D cr dr fr f hmo hN hAb (by omega) (by rw [hfd]; omega)) ?_ (hle := by (repeat' first | refine And.intro ?_ ?_ | exact xeC | fail) <;> exact xmZ)
      generalize addB mo (R.map abP) D fr f = rb at *
      obtain ⟨B', D', tb⟩ := rb
      simp only at hrel hBl
      obtain ⟨h1, h2, rfl⟩ := hrel
      rintro v h' ⟨R', cr3, dr3, hR1, hR2, hR3, rfl, rfl⟩ hcaps
      simp only at hR1
      have hLR : L'.length = R'.length := by
        have := congrArg List.length (h1.trans hR1.symm)
        simpa using this
      refine ret_mk3 (by (try simp only [↓List.length_cons, ↓List.length_nil, Nat.reduceAdd]); rfl) (by (try simp (maxSteps := 1000000) only [givesF, setF, updF, Fam.zeroth, Fam.rk, Ck.rk, C.rk, E.rk, T.rk, key, List.map_cons, List.map_nil, List.cons_append, List.nil_append, List.length_cons, List.length_nil, Option.map_some, Option.bind_some, Nat.reduceAdd, Nat.zero_add, Nat.add_zero, Nat.add_sub_cancel_left, Int.toNat_natCast, reps, List.all_cons, List.all_nil, C.flat, List.append_eq, Bool.not_true, Bool.and_true, Bool.or_false, Bool.or_self, Bool.not_false, List.append_nil, Bool.and_self, ↓mtG_rk, ↓winO_rk, ↓hasG_rk, encG, encK, map_rk_id, map_rk_P]); rfl) (by (try simp only [givesF, setF, updF, Fam.zeroth, Fam.rk, Ck.rk, C.rk, E.rk, T.rk, key, List.map_cons, List.map_nil, List.cons_append, List.nil_append, List.length_cons, List.length_nil, Option.map_some, Option.bind_some, Nat.reduceAdd, Nat.zero_add, Nat.add_zero, Nat.add_sub_cancel_left, Int.toNat_natCast, reps, List.all_cons, List.all_nil, C.flat, List.append_eq, Bool.not_true, Bool.and_true, Bool.or_false, Bool.or_self, Bool.not_false, List.append_nil, Bool.and_self, ↓mtG_rk, ↓winO_rk, ↓hasG_rk, encG, encK, map_rk_id, map_rk_P]); rfl) ?_
      repeat' (first | (fail_if_success (with_reducible refine xstp ?_)); first | ((with_reducible refine And.intro (fun (hb : _ = true) => ?_) (fun (hb : _ = false) => ?_)) <;> replace hb := xnC hb <;> (try first | exact xfC | exact bff hb (by assumption) | exact bff (by assumption) hb | (exfalso; simp only [List.length_nil] at hb; omega) | (exfalso; revert hb; decide) | (exfalso; simp at hb; done))) | (with_reducible refine Both.mk ?_ ?_) | ((with_reducible refine And.intro ?_ ?_); focus exact xoC) | ((with_reducible refine Or.inl ⟨?_, ?_, ?_⟩); (focus rfl); focus exact xaC) | ((with_reducible refine xwB ?_ ?_); focus exact xaC) | ((with_reducible refine xwC ?_ ?_); focus exact xaC) | ((with_reducible refine xwD ?_ ?_); focus exact xaC) | ((with_reducible refine xwE ?_ ?_); focus exact xaC) | (with_reducible intro hc; (try simp only [capsP, and_true] at hc); (try exact xfC)) | ((fail_if_success (with_reducible first | refine xgon ?_ | intro _)); (conv => whnf); (fail_if_success (fail_if_success (with_reducible first | refine xstp ?_ | refine Both.mk ?_ ?_ | refine xgon ?_ | intro _)))))
      refine cH15uE1 (σ := [.whole 1, .name 11, .name 12]) (nl := []) (cOpenA mo J' L' dn' c3 cd3) ?_ (hle := by (repeat' first | refine And.intro ?_ ?_ | exact xeC | fail) <;> exact xmZ)
      rintro v h' ⟨rfl, rfl⟩ hcaps
      refine ret_mk3 (by (try simp only [↓List.length_cons, ↓List.length_nil, Nat.reduceAdd]); rfl) (by (try simp (maxSteps := 1000000) only [givesF, setF, updF, Fam.zeroth, Fam.rk, Ck.rk, C.rk, E.rk, T.rk, key, List.map_cons, List.map_nil, List.cons_append, List.nil_append, List.length_cons, List.length_nil, Option.map_some, Option.bind_some, Nat.reduceAdd, Nat.zero_add, Nat.add_zero, Nat.add_sub_cancel_left, Int.toNat_natCast, reps, List.all_cons, List.all_nil, C.flat, List.append_eq, Bool.not_true, Bool.and_true, Bool.or_false, Bool.or_self, Bool.not_false, List.append_nil, Bool.and_self, ↓mtG_rk, ↓winO_rk, ↓hasG_rk, encG, encK, map_rk_id, map_rk_P]); rfl) (by (try simp only [givesF, setF, updF, Fam.zeroth, Fam.rk, Ck.rk, C.rk, E.rk, T.rk, key, List.map_cons, List.map_nil, List.cons_append, List.nil_append, List.length_cons, List.length_nil, Option.map_some, Option.bind_some, Nat.reduceAdd, Nat.zero_add, Nat.add_zero, Nat.add_sub_cancel_left, Int.toNat_natCast, reps, List.all_cons, List.all_nil, C.flat, List.append_eq, Bool.not_true, Bool.and_true, Bool.or_false, Bool.or_self, Bool.not_false, List.append_nil, Bool.and_self, ↓mtG_rk, ↓winO_rk, ↓hasG_rk, encG, encK, map_rk_id, map_rk_P]); rfl) ?_
      repeat' (first | (fail_if_success (with_reducible refine xstp ?_)); first | ((with_reducible refine And.intro (fun (hb : _ = true) => ?_) (fun (hb : _ = false) => ?_)) <;> replace hb := xnC hb <;> (try first | exact xfC | exact bff hb (by assumption) | exact bff (by assumption) hb | (exfalso; simp only [List.length_nil] at hb; omega) | (exfalso; revert hb; decide) | (exfalso; simp at hb; done))) | (with_reducible refine Both.mk ?_ ?_) | ((with_reducible refine And.intro ?_ ?_); focus exact xoC) | ((with_reducible refine Or.inl ⟨?_, ?_, ?_⟩); (focus rfl); focus exact xaC) | ((with_reducible refine xwB ?_ ?_); focus exact xaC) | ((with_reducible refine xwC ?_ ?_); focus exact xaC) | ((with_reducible refine xwD ?_ ?_); focus exact xaC) | ((with_reducible refine xwE ?_ ?_); focus exact xaC) | (with_reducible intro hc; (try simp only [capsP, and_true] at hc); (try exact xfC)) | ((fail_if_success (with_reducible first | refine xgon ?_ | intro _)); (conv => whnf); (fail_if_success (fail_if_success (with_reducible first | refine xstp ?_ | refine Both.mk ?_ ?_ | refine xgon ?_ | intro _)))))
      refine cH15uE1 (σ := [.whole 6, .name 15, .name 16]) (nl := []) (cOpenAR mo R'.length cr3 D'.length dr3) ?_ (hle := by (repeat' first | refine And.intro ?_ ?_ | exact xeC | fail) <;> exact xmZ)
      rw [← hLR]
      rintro v h' ⟨rfl, rfl⟩ hcaps
      refine ret_mk3 (by (try simp only [↓List.length_cons, ↓List.length_nil, Nat.reduceAdd]); rfl) (by (try simp (maxSteps := 1000000) only [givesF, setF, updF, Fam.zeroth, Fam.rk, Ck.rk, C.rk, E.rk, T.rk, key, List.map_cons, List.map_nil, List.cons_append, List.nil_append, List.length_cons, List.length_nil, Option.map_some, Option.bind_some, Nat.reduceAdd, Nat.zero_add, Nat.add_zero, Nat.add_sub_cancel_left, Int.toNat_natCast, reps, List.all_cons, List.all_nil, C.flat, List.append_eq, Bool.not_true, Bool.and_true, Bool.or_false, Bool.or_self, Bool.not_false, List.append_nil, Bool.and_self, ↓mtG_rk, ↓winO_rk, ↓hasG_rk, encG, encK, map_rk_id, map_rk_P]); rfl) (by (try simp only [givesF, setF, updF, Fam.zeroth, Fam.rk, Ck.rk, C.rk, E.rk, T.rk, key, List.map_cons, List.map_nil, List.cons_append, List.nil_append, List.length_cons, List.length_nil, Option.map_some, Option.bind_some, Nat.reduceAdd, Nat.zero_add, Nat.add_zero, Nat.add_sub_cancel_left, Int.toNat_natCast, reps, List.all_cons, List.all_nil, C.flat, List.append_eq, Bool.not_true, Bool.and_true, Bool.or_false, Bool.or_self, Bool.not_false, List.append_nil, Bool.and_self, ↓mtG_rk, ↓winO_rk, ↓hasG_rk, encG, encK, map_rk_id, map_rk_P]); rfl) ?_
      repeat' (first | (fail_if_success (with_reducible refine xstp ?_)); first | ((with_reducible refine And.intro (fun (hb : _ = true) => ?_) (fun (hb : _ = false) => ?_)) <;> replace hb := xnC hb <;> (try first | exact xfC | exact bff hb (by assumption) | exact bff (by assumption) hb | (exfalso; simp only [List.length_nil] at hb; omega) | (exfalso; revert hb; decide) | (exfalso; simp at hb; done))) | (with_reducible refine Both.mk ?_ ?_) | ((with_reducible refine And.intro ?_ ?_); focus exact xoC) | ((with_reducible refine Or.inl ⟨?_, ?_, ?_⟩); (focus rfl); focus exact xaC) | ((with_reducible refine xwB ?_ ?_); focus exact xaC) | ((with_reducible refine xwC ?_ ?_); focus exact xaC) | ((with_reducible refine xwD ?_ ?_); focus exact xaC) | ((with_reducible refine xwE ?_ ?_); focus exact xaC) | (with_reducible intro hc; (try simp only [capsP, and_true] at hc); (try exact xfC)) | ((fail_if_success (with_reducible first | refine xgon ?_ | intro _)); (conv => whnf); (fail_if_success (fail_if_success (with_reducible first | refine xstp ?_ | refine Both.mk ?_ ?_ | refine xgon ?_ | intro _)))))
      refine ⟨⟨⟨i + 1, N + 1, J', L', dn', c3, cd3, R', D', cr3, dr3⟩, ⟨hlt, hA', h2, h1.trans hR1.symm, ⟨hR2, hR3⟩, by simp only; omega, by simp only; omega⟩⟩, [0, 1, 11, 12, 13, 14, 6, 15, 16, 17], by simp only; omega, ?_⟩
      (repeat' first | refine And.intro ?_ ?_ | exact xeC | fail)
      all_goals first
        | exact xmZ
        | exact hLR
        | exact Nat.le_of_eq hLR.symm
        | skip
      )
  · skip
    repeat' (first | (fail_if_success (with_reducible refine xstp ?_)); first | ((with_reducible refine And.intro (fun (hb : _ = true) => ?_) (fun (hb : _ = false) => ?_)) <;> replace hb := xnC hb <;> (try first | exact xfC | exact bff hb (by assumption) | exact bff (by assumption) hb)) | (with_reducible intro hc; (try simp only [capsP, and_true] at hc); (try exact xfC)) | ((fail_if_success (with_reducible first | refine xgon ?_ | intro _)); (conv => whnf); (fail_if_success (fail_if_success (with_reducible first | refine xstp ?_ | refine xgon ?_ | intro _)))))
    refine cH15uE1 (σ := []) (nl := []) (cAddNil 0 ⟨0, 0, 1, []⟩) ?_ (hle := by (repeat' first | refine And.intro ?_ ?_ | exact xeC | fail) <;> exact xmZ)
    rintro v h' ⟨rfl, rfl⟩ hcaps
    refine ret_mk3 (by (try simp only [↓List.length_cons, ↓List.length_nil, Nat.reduceAdd]); rfl) (by (try simp (maxSteps := 1000000) only [givesF, setF, updF, Fam.zeroth, Fam.rk, Ck.rk, C.rk, E.rk, T.rk, key, List.map_cons, List.map_nil, List.cons_append, List.nil_append, List.length_cons, List.length_nil, Option.map_some, Option.bind_some, Nat.reduceAdd, Nat.zero_add, Nat.add_zero, Nat.add_sub_cancel_left, Int.toNat_natCast, reps, List.all_cons, List.all_nil, C.flat, List.append_eq, Bool.not_true, Bool.and_true, Bool.or_false, Bool.or_self, Bool.not_false, List.append_nil, Bool.and_self, ↓mtG_rk, ↓winO_rk, ↓hasG_rk, encG, encK, map_rk_id, map_rk_P]); rfl) (by (try simp only [givesF, setF, updF, Fam.zeroth, Fam.rk, Ck.rk, C.rk, E.rk, T.rk, key, List.map_cons, List.map_nil, List.cons_append, List.nil_append, List.length_cons, List.length_nil, Option.map_some, Option.bind_some, Nat.reduceAdd, Nat.zero_add, Nat.add_zero, Nat.add_sub_cancel_left, Int.toNat_natCast, reps, List.all_cons, List.all_nil, C.flat, List.append_eq, Bool.not_true, Bool.and_true, Bool.or_false, Bool.or_self, Bool.not_false, List.append_nil, Bool.and_self, ↓mtG_rk, ↓winO_rk, ↓hasG_rk, encG, encK, map_rk_id, map_rk_P]); rfl) ?_
    repeat' (first | (fail_if_success (with_reducible refine xstp ?_)); first | ((fail_if_success (with_reducible first | refine xgon ?_ | intro _)); (conv => whnf); (fail_if_success (fail_if_success (with_reducible first | refine xstp ?_ | refine xgon ?_ | intro _)))))
    refine cH15uE1 (σ := []) (nl := []) (cOpenNil) ?_ (hle := by (repeat' first | refine And.intro ?_ ?_ | exact xeC | fail) <;> exact xmZ)
    rintro v h' ⟨rfl, rfl⟩ hcaps
    refine ret_mk3 (by (try simp only [↓List.length_cons, ↓List.length_nil, Nat.reduceAdd]); rfl) (by (try simp (maxSteps := 1000000) only [givesF, setF, updF, Fam.zeroth, Fam.rk, Ck.rk, C.rk, E.rk, T.rk, key, List.map_cons, List.map_nil, List.cons_append, List.nil_append, List.length_cons, List.length_nil, Option.map_some, Option.bind_some, Nat.reduceAdd, Nat.zero_add, Nat.add_zero, Nat.add_sub_cancel_left, Int.toNat_natCast, reps, List.all_cons, List.all_nil, C.flat, List.append_eq, Bool.not_true, Bool.and_true, Bool.or_false, Bool.or_self, Bool.not_false, List.append_nil, Bool.and_self, ↓mtG_rk, ↓winO_rk, ↓hasG_rk, encG, encK, map_rk_id, map_rk_P]); rfl) (by (try simp only [givesF, setF, updF, Fam.zeroth, Fam.rk, Ck.rk, C.rk, E.rk, T.rk, key, List.map_cons, List.map_nil, List.cons_append, List.nil_append, List.length_cons, List.length_nil, Option.map_some, Option.bind_some, Nat.reduceAdd, Nat.zero_add, Nat.add_zero, Nat.add_sub_cancel_left, Int.toNat_natCast, reps, List.all_cons, List.all_nil, C.flat, List.append_eq, Bool.not_true, Bool.and_true, Bool.or_false, Bool.or_self, Bool.not_false, List.append_nil, Bool.and_self, ↓mtG_rk, ↓winO_rk, ↓hasG_rk, encG, encK, map_rk_id, map_rk_P]); rfl) ?_
    repeat' (first | (fail_if_success (with_reducible refine xstp ?_)); first | ((with_reducible refine And.intro (fun (hb : _ = true) => ?_) (fun (hb : _ = false) => ?_)) <;> replace hb := xnC hb <;> (try first | exact xfC | exact bff hb (by assumption) | exact bff (by assumption) hb | (exfalso; simp only [List.length_nil] at hb; omega) | (exfalso; revert hb; decide) | (exfalso; simp at hb; done))) | (with_reducible refine Both.mk ?_ ?_) | ((with_reducible refine And.intro ?_ ?_); focus exact xoC) | ((with_reducible refine Or.inl ⟨?_, ?_, ?_⟩); (focus rfl); focus exact xaC) | ((with_reducible refine xwB ?_ ?_); focus exact xaC) | ((with_reducible refine xwC ?_ ?_); focus exact xaC) | ((with_reducible refine xwD ?_ ?_); focus exact xaC) | ((with_reducible refine xwE ?_ ?_); focus exact xaC) | (with_reducible intro hc; (try simp only [capsP, and_true] at hc); (try exact xfC)) | ((fail_if_success (with_reducible first | refine xgon ?_ | intro _)); (conv => whnf); (fail_if_success (fail_if_success (with_reducible first | refine xstp ?_ | refine Both.mk ?_ ?_ | refine xgon ?_ | intro _)))))
    refine cH15uE1 (σ := []) (nl := []) (cawake) ?_
    rintro v h' ⟨rfl, rfl⟩ hcaps
    refine ret_mk3 (by (try simp only [↓List.length_cons, ↓List.length_nil, Nat.reduceAdd]); rfl) (by (try simp (maxSteps := 1000000) only [givesF, setF, updF, Fam.zeroth, Fam.rk, Ck.rk, C.rk, E.rk, T.rk, key, List.map_cons, List.map_nil, List.cons_append, List.nil_append, List.length_cons, List.length_nil, Option.map_some, Option.bind_some, Nat.reduceAdd, Nat.zero_add, Nat.add_zero, Nat.add_sub_cancel_left, Int.toNat_natCast, reps, List.all_cons, List.all_nil, C.flat, List.append_eq, Bool.not_true, Bool.and_true, Bool.or_false, Bool.or_self, Bool.not_false, List.append_nil, Bool.and_self, ↓mtG_rk, ↓winO_rk, ↓hasG_rk, encG]); rfl) (by (try simp only [givesF, setF, updF, Fam.zeroth, Fam.rk, Ck.rk, C.rk, E.rk, T.rk, key, List.map_cons, List.map_nil, List.cons_append, List.nil_append, List.length_cons, List.length_nil, Option.map_some, Option.bind_some, Nat.reduceAdd, Nat.zero_add, Nat.add_zero, Nat.add_sub_cancel_left, Int.toNat_natCast, reps, List.all_cons, List.all_nil, C.flat, List.append_eq, Bool.not_true, Bool.and_true, Bool.or_false, Bool.or_self, Bool.not_false, List.append_nil, Bool.and_self, ↓mtG_rk, ↓winO_rk, ↓hasG_rk, encG]); rfl) ?_
    repeat' (first | (fail_if_success (with_reducible refine xstp ?_)); first | ((fail_if_success (with_reducible first | refine xgon ?_ | intro _)); (conv => whnf); (fail_if_success (fail_if_success (with_reducible first | refine xstp ?_ | refine xgon ?_ | intro _)))))
    refine FinK.mk ⟨[0], _, [.one (piR l c)], rfl, ?_⟩
    (repeat' first | refine And.intro ?_ ?_ | exact xeC | fail)
end Go.Proofs.Ytgaodeffbgppmaa


namespace Go.Proofs.Ytgaodeffbgppmaa
open Go.X Go.RowKit
set_option linter.unusedVariables false
theorem ft_Pi {l : List C} (h : FT [.i .u8, .i .u8, .i .i8, .i .i8, .s] l) : ∃ x : Pi5, l = encPi x ∧ okPi x := by
  obtain ⟨a, _, rfl, ha, h1⟩ := FT_i h
  obtain ⟨b, _, rfl, hb, h2⟩ := FT_i h1
  obtain ⟨c, _, rfl, hc, h3⟩ := FT_i h2
  obtain ⟨d, _, rfl, hd, h4⟩ := FT_i h3
  obtain ⟨s, _, rfl, hs, h5⟩ := FT_s h4
  obtain rfl := FT_nil h5
  refine ⟨⟨a, b, c, d, s.data.toList⟩, by unfold encPi; simp only [mkS_of], ⟨ha.1, ha.2⟩, ⟨hb.1, hb.2⟩, ⟨hc.1, hc.2⟩, hd.1, hd.2⟩
theorem walk_PacketGathers (W : World) (a0 : Int) (w0 : (Lit.int .i64 a0).wf = true) (v1 : Value) (k1 : VK W (.sl [.i .u8, .i .u8, .i .i8, .i .i8, .s]) v1) (e1 : ∀ a n c, v1 = .slice (some a) n c → a.spot = none) :
    Calls Try.prog 3 #[.int .i64 a0, v1] W fun e W' => e = .returned (.bool true) ∧ Below W.heap.size W W' := by
  obtain ⟨A, n, c, g, hv, hh, hn, hc, hnc, hg⟩ := row_view (by rfl) k1 e1
  obtain ⟨l, hl, hge, hp⟩ := list_of encPi (Pr := okPi) (fun i hi => ft_Pi (hg i hi))
  subst hl
  obtain ⟨hf, hno⟩ := one_read (β := nmL [A]) (W := W) (ck := piR l c) (holds_row_congr (hh _ _) hge) rfl
  have hv' : C.ren (nmL [A]) (C.sl 0 0 5 0 l.length c) = v1 := hv (nmL [A]) 0 0 rfl
  have := glue (cgathers a0 l c (by unfold maxLen at hn; omega) hp) hf hno
  simp only [List.map_cons, List.map_nil, T.ren, hv', show C.ren (nmL [A]) (.i .i64 a0) = .int .i64 a0 from rfl] at this
  exact this
end Go.Proofs.Ytgaodeffbgppmaa

