/- Part 2 of the texts that a walk of this program rests on: an abstract machine, its soundness, contracts of functions. No statement of the seat is proved in this file. -/
import Derived.Test.YtkjkbpnhocjenaaVF1
import Derived.Deep.Upon
import Derived.Maps.RangeRun
import Derived.OrdersHeld
set_option linter.constructorNameAsVariable false
set_option linter.unusedVariables false
namespace Go.X
variable {cx : Cx} {β : Nm} {s : S} {a : Act} {w : World} {P : Program} {tb : Tb}
theorem row_news {f x : Nat} {own k : Bool} {e z n c : Nat} {g : Nat → List C} (h : (Ck.row own k e z n c g).holds β w (β f x)) (hz : 0 < z) {o m : Nat} (hm : o + m ≤ n) :
    ∃ news : List Value, news.length = m * z ∧ (∀ j u, news[j]? = some u → w.cell? ((place β f x (o * z)).add j) = some u) ∧ (∀ u ∈ news, u.oneCell' = true) ∧
      ∀ i, i < m → ∀ j v, (g (o + i))[j]? = some v → news[i * z + j]? = some (v.ren β) := by
  obtain ⟨hnc, hnil, hkf, hlz, hblk⟩ := h
  by_cases hm0 : m = 0
  · subst hm0
    exact ⟨[], by simp, by simp, by simp, fun i hi => by omega⟩
  obtain ⟨cur, te, fz, hb, hc, _⟩ := hblk (by omega)
  let ns : List Value := (List.range (m * z)).map fun q => match (g (o + q / z))[q % z]? with | some v => v.ren β | none => .nilFunc
  have hget : ∀ q, q < m * z → ∃ v : C, (g (o + q / z))[q % z]? = some v ∧ ns[q]? = some (v.ren β) := by
    intro q hq
    have hqi : q / z < m := Nat.div_lt_of_lt_mul (by rw [Nat.mul_comm]; exact hq)
    have hl := hlz (o + q / z) (by omega)
    have hr : q % z < (g (o + q / z)).length := by rw [hl]; exact Nat.mod_lt _ hz
    refine ⟨(g (o + q / z))[q % z], List.getElem?_eq_getElem hr, ?_⟩
    simp only [ns, List.getElem?_map, List.getElem?_range hq, Option.map_some, List.getElem?_eq_getElem hr]
  have hlen : ns.length = m * z := by simp [ns]
  refine ⟨ns, hlen, fun j u hu => ?_, fun u hu => ?_, fun i hi j v hv => ?_⟩
  · have hj : j < m * z := by have := (List.getElem?_eq_some_iff.1 hu).1; omega
    obtain ⟨v, hv, hn⟩ := hget j hj
    rw [hn] at hu
    cases hu
    have hji : j / z < m := Nat.div_lt_of_lt_mul (by rw [Nat.mul_comm]; exact hj)
    have := hc (o + j / z) (by omega) _ _ hv
    rw [place_add]
    unfold place
    rw [cell_at hb, ← this]
    congr 1
    have hdm := Nat.div_add_mod j z
    rw [Nat.add_mul, Nat.mul_comm (j / z) z]
    omega
  · obtain ⟨j, hj⟩ := List.getElem?_of_mem hu
    have hjl : j < m * z := by have := (List.getElem?_eq_some_iff.1 hj).1; omega
    obtain ⟨v, hv, hn⟩ := hget j hjl
    rw [hn] at hj
    cases hj
    exact v.ren_one
  · have hl := hlz (o + i) (by omega)
    have hj : j < z := by have := (List.getElem?_eq_some_iff.1 hv).1; omega
    have hq : i * z + j < m * z := by
      have : (i + 1) * z ≤ m * z := Nat.mul_le_mul_right _ hi
      rw [Nat.add_mul] at this
      omega
    obtain ⟨u, hu, hn⟩ := hget _ hq
    have e1 : (i * z + j) / z = i := by
      rw [Nat.mul_comm, Nat.mul_add_div hz, Nat.div_eq_of_lt hj]; rfl
    have e2 : (i * z + j) % z = j := by
      rw [Nat.mul_comm, Nat.mul_add_mod, Nat.mod_eq_of_lt hj]
    rw [e1, e2, hv] at hu
    cases hu
    exact hn
theorem row_app {β' : Nm} {w' : World} {g' cap : Nat} {cur' : Array Value} {e z n m : Nat} {xs news : List Value} {f g : Nat → List C} {o2 B : Nat} {kk : Bool} (hh : w'.heap[g']? = some (.cells cur' e (0, 0))) (hcs : B + cap * z ≤ cur'.size)
    (hnc : n + m ≤ cap) (hcm : cap ≤ maxLen) (htake : (cur'.toList.drop B).take ((n + m) * z) = xs ++ news) (hxl : xs.length = n * z)
    (hx : ∀ i, i < n → (f i).length = z ∧ ∀ j v, (f i)[j]? = some v → xs[i * z + j]? = some (v.ren β')) (hn : ∀ i, i < m → (g (o2 + i)).length = z ∧ ∀ j v, (g (o2 + i))[j]? = some v → news[i * z + j]? = some (v.ren β'))
    (hkf : kk = false → ∀ i, i < n → ∀ v ∈ f i, v.flat = true) (hkg : kk = false → ∀ i, i < m → ∀ v ∈ g (o2 + i), v.flat = true) :
    (Ck.row true kk e z (n + m) cap (appF n f o2 g)).holds β' w' (g', B, .live) := by
  have key : ∀ q u, (xs ++ news)[q]? = some u → q < (n + m) * z → cur'[B + q]? = some u := by
    intro q u hu hq
    rw [← htake, List.getElem?_take_of_lt hq, List.getElem?_drop] at hu
    simpa using hu
  have hlz : ∀ i, i < n + m → (appF n f o2 g i).length = z := by
    intro i hi
    unfold appF
    by_cases hin : i < n
    · rw [if_pos hin]; exact (hx i hin).1
    · rw [if_neg hin]; exact (hn _ (by omega)).1
  refine ⟨hnc, fun h => absurd rfl h, fun hk i hi v hv => ?_, hlz, fun _ => ⟨cur', e, (0, 0), hh, fun i hi => ?_, fun _ => ⟨rfl, rfl, hcm, by simp only; omega⟩⟩⟩
  rotate_left
  · have hiz : (i + 1) * z ≤ (n + m) * z := Nat.mul_le_mul_right _ hi
    rw [Nat.add_mul, Nat.one_mul] at hiz
    unfold appF
    by_cases hin : i < n
    · rw [if_pos hin]
      intro j v hj
      have hjz : j < z := by have := (List.getElem?_eq_some_iff.1 hj).1; rw [(hx i hin).1] at this; exact this
      refine key _ _ ?_ (by omega)
      have := (hx i hin).2 j v hj
      rw [List.getElem?_append_left (List.getElem?_eq_some_iff.1 this).1]
      exact this
    · rw [if_neg hin]
      have him : i - n < m := by omega
      intro j v hj
      have hjz : j < z := by have := (List.getElem?_eq_some_iff.1 hj).1; rw [(hn _ him).1] at this; exact this
      refine key _ _ ?_ (by omega)
      have := (hn _ him).2 j v hj
      have e1 : i * z = n * z + (i - n) * z := by rw [← Nat.add_mul]; congr 1; omega
      rw [List.getElem?_append_right (by rw [hxl]; omega), hxl, show i * z + j - n * z = (i - n) * z + j from by omega]
      exact this
  · unfold appF at hv
    by_cases hin : i < n
    · rw [if_pos hin] at hv; exact hkf hk i hin v hv
    · rw [if_neg hin] at hv; exact hkg hk (i - n) (by omega) v hv
end Go.X
namespace Go.X
variable {cx : Cx} {β : Nm} {s : S} {a : Act} {w : World} {P : Program} {tb : Tb}
theorem heap_old (w : World) (o : Obj) (k : Nat) (h : k < w.heap.size) : (w.alloc o).heap[k]? = w.heap[k]? := by
  show (w.heap.push o)[k]? = w.heap[k]?
  rw [Array.getElem?_push, if_neg (Nat.ne_of_lt h)]
theorem Rel.grown (hr : Rel cx β s a w) {h1 : List Fam} (hlen : h1.length = s.h.length) (hsub : ∀ g y, get h1 g y = .no ∨ get h1 g y = get s.h g y) {ck : Ck} {w' : World} {row : Option Nat} {A : Nat × Nat × Fl}
    (hg : w.grownBy w' row) (hh : ck.holds β w' A) (hb : ck.bel s.h.length) (hown : ∀ b, row = some b → ∃ f x, (get s.h f x).owned = true ∧ (β f x).1 = b)
    (hrow : ∀ b, row = some b → ∀ g y, (get h1 g y).known = true → (β g y).1 ≠ b) (hA : w.heap.size ≤ A.1 ∨ row = some A.1) :
    Rel cx (bind β s.h.length A) ⟨s.t, h1 ++ [.one ck]⟩ a w' := by
  have hag := bind_agree β s.h.length A
  have hnone : ∀ c : Ck, c.known = true → c ≠ .no := fun c h e => by subst e; cases h
  refine hr.step (by simp; omega) hag ?_ ?_ hg.os hg.tape hg.output hg.size (fun b hb' hne => hg.block b hb' ?_) ?_ ?_
  · refine hr.ft.one s.h.length 0 s.h.length hag ?_ ?_
    · rw [← hlen, get_add_new, hlen, bind_new]
      exact Ck.holds_agree hb hag hh
    · intro f x hne
      by_cases hf : f < s.h.length
      · rw [get_add_lt x (by omega)]
        rcases hsub f x with h0 | h0
        · exact .inl h0
        · right
          refine ⟨h0, (hag f x hf).symm, hr.wf.h f x, fun hk => ?_⟩
          have hlt := Ck.holds_lt (hr.ft.ck f x) hk
          rw [← h0] at hk
          refine ⟨hg.block _ hlt (fun e => hrow _ e.symm f x hk rfl), fun _ => ?_⟩
          rw [bind_new]
          rcases hA with hA | hA
          · omega
          · exact hrow _ hA f x hk
      · left
        rw [← hlen] at hne
        exact get_add_no (by omega) hne
  · intro f x
    by_cases he : (f, x) = (s.h.length, 0)
    · cases he; rw [← hlen, get_add_new]; exact Ck.bel_mono hb (by simp; omega)
    · by_cases hf : f < s.h.length
      · rw [get_add_lt x (by omega)]
        rcases hsub f x with h0 | h0
        · rw [h0]; trivial
        · rw [h0]; exact Ck.bel_mono (hr.wf.h f x) (by simp; omega)
      · rw [get_add_no (by omega) (by rw [hlen]; exact he)]; trivial
  · intro e
    obtain ⟨f, x, ho, he⟩ := hown b e.symm
    exact hne f x ho he
  · intro f x ho
    by_cases he : (f, x) = (s.h.length, 0)
    · cases he
      rw [bind_new]
      rcases hA with hA | hA
      · exact .inr hA
      · exact .inl (hown _ hA)
    · by_cases hf : f < s.h.length
      · rw [get_add_lt x (by omega)] at ho
        rcases hsub f x with h0 | h0
        · rw [h0] at ho; cases ho
        · rw [h0] at ho
          exact .inl ⟨f, x, ho, by rw [hag f x hf]⟩
      · rw [get_add_no (by omega) (by rw [hlen]; exact he)] at ho; cases ho
  · intro f x ho
    by_cases he : (f, x) = (s.h.length, 0)
    · cases he
      rw [bind_new]
      rcases hA with hA | hA
      · exact .inr hA
      · obtain ⟨f, x, h1, h2⟩ := hown _ hA
        exact .inl ⟨f, x, Ck.owned_known h1, h2⟩
    · by_cases hf : f < s.h.length
      · rw [get_add_lt x (by omega)] at ho
        rcases hsub f x with h0 | h0
        · rw [h0] at ho; cases ho
        · rw [h0] at ho
          exact .inl ⟨f, x, ho, by rw [hag f x hf]⟩
      · rw [get_add_no (by omega) (by rw [hlen]; exact he)] at ho; cases ho
theorem adr_some {f x o sz n z : Nat} (hn : (β f x).2.2 ≠ .nil) (h0 : (β f x).2.2 ≠ .live → n = 0) {olds : List Value} (hl : olds.length = n * z)
    (hs : ∀ j u, olds[j]? = some u → w.cell? ((place β f x (o * sz)).add j) = some u) : ∃ ad, adr β f x sz o = some ad ∧ ∀ j u, olds[j]? = some u → w.cell? (ad.add j) = some u := by
  unfold adr
  split
  · exact ⟨_, rfl, hs⟩
  · rename_i he; exact absurd he hn
  · rename_i he
    have : olds = [] := List.eq_nil_of_length_eq_zero (by rw [hl, h0 (by rw [he]; simp), Nat.zero_mul])
    exact ⟨_, rfl, by simp [this]⟩
theorem grow_case (hr : Rel cx β s a w) {t ty e : Nat} (hu : P.underlying t = some (.slice e)) {i : TypeInfo} (hi : P.info? e = some i) {z : Value} (hzero : i.zero = some z) {sz : Nat} (hs : i.size = sz) (hzs : z.cells.size = sz) (hpos : 0 < sz)
    {f x o n c : Nat} {own k : Bool} {e' n' c' : Nat} {fr : Nat → List C} (hfl0 : (β f x).2.2 ≠ .nil) (hc : (Ck.row own k e' sz n' c' fr).holds β w (β f x)) (hcb : (Ck.row own k e' sz n' c' fr).bel s.h.length) (hon : o + n ≤ n') {bytes : Nat} (hby : i.bytes = bytes)
    {f2 x2 o2 m c2 : Nat} {own2 k2 : Bool} {e2 n2 cc2 : Nat} {g : Nat → List C} (hnl2 : (β f2 x2).2.2 = .live) (hc2 : (Ck.row own2 k2 e2 sz n2 cc2 g).holds β w (β f2 x2)) (hcb2 : (Ck.row own2 k2 e2 sz n2 cc2 g).bel s.h.length) (hom : o2 + m ≤ n2)
    (hlt : c < n + m) (h63 : n + m ≤ maxLen) (hb47 : (n + m) * bytes ≤ 140737488355328) {h1 : List Fam} (hlen : h1.length = s.h.length) (hsub : ∀ g y, get h1 g y = .no ∨ get h1 g y = get s.h g y) :
    ∃ cap w', (Builtin.append_ #[t, t] ty #[(C.sl f x sz o n c).ren β, (C.sl f2 x2 sz o2 m c2).ren β]).run P w = .ok ((C.sl s.h.length 0 sz 0 (n + m) cap).ren (bind β s.h.length (w.heap.size, 0, .live))) w' ∧
      Rel cx (bind β s.h.length (w.heap.size, 0, .live)) ⟨s.t, h1 ++ [.one (.row true (k || k2) e sz (n + m) cap (appF n (fun i => fr (o + i)) o2 g))]⟩ a w' := by
  subst hs
  subst hby
  obtain ⟨news, hnl, hnews, hone, hncell⟩ := row_news hc2 hpos hom
  obtain ⟨olds, hol, holds0, hoone, hocell⟩ := row_news hc hpos hon
  obtain ⟨ad, had, holds⟩ := adr_some (o := o) (sz := i.size) hfl0 (fun h => by have := hc.1; have := hc.2.1 h; omega) hol holds0
  have hfit := growslice_fits (old := c) hlt hb47
  have hrun := run_append_grow (P := P) w t ty e i z hu hi hzero ad n c olds hol holds (place β f2 x2 (o2 * i.size)) m c2 news hnl hnews hlt (by unfold maxLen at h63; omega) hfit
  have hge := grownCap_ge w (n + m) c e
  have hcm := grownCap_le_maxLen w (n + m) c e h63
  refine ⟨grownCap w (n + m) c e, w.drew.alloc (.cells (olds.toArray ++ news.toArray ++ Builtin.zeroCells z.cells (grownCap w (n + m) c e - (n + m))) e), ?_, hr.grown hlen hsub (row := none) (A := (w.heap.size, 0, .live)) ⟨rfl, rfl, rfl, by simp, fun k hk _ => heap_old w.drew _ k hk⟩ ?_ ?_ (by simp) (by simp) (.inl (Nat.le_refl _))⟩
  · rw [sl_new, sl_adr, sl_adr, had]; unfold adr; rw [hnl2]; exact hrun
  · refine row_app (e := e) (xs := olds) (news := news) (heap_alloc_new w.drew _) ?_ hge hcm ?_ hol ?_ ?_ ?_ ?_
    · simp only [Array.size_append, List.size_toArray, size_zeroCells, hzs, hol, hnl, ← Nat.add_mul]
      rw [Nat.zero_add]
      exact Nat.mul_le_mul_right _ (by omega)
    · simp only [Array.toList_append, List.append_assoc, List.drop_zero]
      rw [← List.append_assoc, show (n + m) * i.size = (olds ++ news).length from by rw [List.length_append, hol, hnl, Nat.add_mul]]
      exact List.take_left
    · intro i' hi'
      obtain ⟨_, _, _, hlz, _⟩ := hc
      exact ⟨hlz (o + i') (by omega), hocell i' hi'⟩
    · intro i' hi'
      obtain ⟨_, _, _, hlz, _⟩ := hc2
      exact ⟨hlz (o2 + i') (by omega), hncell i' hi'⟩
    · intro hk i' hi'
      obtain ⟨_, _, hf, _⟩ := hc
      exact hf (Bool.or_eq_false_iff.1 hk).1 (o + i') (by omega)
    · intro hk i' hi'
      obtain ⟨_, _, hf, _⟩ := hc2
      exact hf (Bool.or_eq_false_iff.1 hk).2 (o2 + i') (by omega)
  · intro i' hi' v hv
    unfold appF at hv
    by_cases hin : i' < n
    · rw [if_pos hin] at hv; exact hcb (o + i') (by omega) v hv
    · rw [if_neg hin] at hv; exact hcb2 (o2 + (i' - n)) (by omega) v hv
theorem append_nil_of (hr : Rel cx β s a w) {t ty e : Nat} (hu : P.underlying t = some (.slice e)) {i : TypeInfo} (hi : P.info? e = some i) {z : Value} (hzero : i.zero = some z) {sz : Nat} (hs : i.size = sz) (hzs : z.cells.size = sz) (hpos : 0 < sz) {bytes : Nat} (hby : i.bytes = bytes)
    {f2 x2 o2 m c2 : Nat} {own2 k2 : Bool} {e2 n2 cc2 : Nat} {g : Nat → List C} (hnl2 : (β f2 x2).2.2 = .live) (hc2 : (Ck.row own2 k2 e2 sz n2 cc2 g).holds β w (β f2 x2)) (hcb2 : (Ck.row own2 k2 e2 sz n2 cc2 g).bel s.h.length) (hom : o2 + m ≤ n2) (hm : m ≠ 0) (h63 : m ≤ maxLen) (hb47 : m * bytes ≤ 140737488355328)
    {h1 : List Fam} (hlen : h1.length = s.h.length) (hsub : ∀ g y, get h1 g y = .no ∨ get h1 g y = get s.h g y) {kk : Bool} (hkk : kk = false → k2 = false) {G : Nat → List C} (hG : ∀ i, i < m → G i = g (o2 + i)) :
    ∃ cap w', (Builtin.append_ #[t, t] ty #[C.nils.ren β, (C.sl f2 x2 sz o2 m c2).ren β]).run P w = .ok ((C.sl s.h.length 0 sz 0 m cap).ren (bind β s.h.length (w.heap.size, 0, .live))) w' ∧
      Rel cx (bind β s.h.length (w.heap.size, 0, .live)) ⟨s.t, h1 ++ [.one (.row true kk e sz m cap G)]⟩ a w' := by
  subst hs
  subst hby
  obtain ⟨news, hnl, hnews, hone, hncell⟩ := row_news hc2 hpos hom
  have hrun := run_append_nil (P := P) w t ty e i z hu hi hzero (place β f2 x2 (o2 * i.size)) m c2 news hnl hnews (by omega) (by unfold maxLen at h63; omega) (by omega)
  have hge := grownCap_ge w m 0 e
  have hcm := grownCap_le_maxLen w m 0 e h63
  refine ⟨grownCap w m 0 e, w.drew.alloc (.cells (news.toArray ++ Builtin.zeroCells z.cells (grownCap w m 0 e - m)) e), ?_, hr.grown hlen hsub (row := none) (A := (w.heap.size, 0, .live)) ⟨rfl, rfl, rfl, by simp, fun k hk _ => heap_old w.drew _ k hk⟩ ?_ ?_ (by simp) (by simp) (.inl (Nat.le_refl _))⟩
  · rw [sl_new, sl_adr]; unfold adr; rw [hnl2]; exact hrun
  · have := row_app (β' := β) (B := 0) (f := fun _ => []) (g := G) (o2 := 0) (n := 0) (m := m) (kk := kk) (xs := []) (news := news) (cap := grownCap w m 0 e) (z := i.size) (heap_alloc_new w.drew (.cells (news.toArray ++ Builtin.zeroCells z.cells (grownCap w m 0 e - m)) e)) (by
        simp only [Array.size_append, List.size_toArray, size_zeroCells, hzs, hnl, ← Nat.add_mul]
        rw [Nat.zero_add]
        exact Nat.mul_le_mul_right _ (by omega)) (by simpa using hge) hcm (by
        simp only [Array.toList_append, List.nil_append, Nat.zero_add, List.drop_zero]
        rw [show m * i.size = news.length from hnl.symm]
        exact List.take_left) (by simp) (fun i hi => by omega) (fun i' hi' => by
          obtain ⟨_, _, _, hlz, _⟩ := hc2
          rw [Nat.zero_add, hG i' hi']
          exact ⟨hlz (o2 + i') (by omega), hncell i' hi'⟩) (fun _ i hi => by omega) (fun hk i' hi' => by
          obtain ⟨_, _, hf, _⟩ := hc2
          rw [Nat.zero_add, hG i' hi']
          exact hf (hkk hk) (o2 + i') (by omega))
    have e1 : appF 0 (fun _ => []) 0 G = G := by funext i; simp [appF]
    rw [e1] at this
    simpa using this
  · intro i' hi' v hv
    rw [hG i' hi'] at hv
    exact hcb2 (o2 + i') (by omega) v hv
def shiftA (A : Nat × Nat × Fl) (k : Nat) : Nat × Nat × Fl :=
  match A.2.2 with
  | .odd q => if k = 0 then A else (A.1, A.2.1 + k, .live)
  | fl => (A.1, A.2.1 + k, fl)
theorem shift_adr (β : Nm) (n f x z o : Nat) : adr (bind β n (shiftA (β f x) (o * z))) n 0 z 0 = adr β f x z o := by
  unfold adr shiftA place
  rw [bind_new]
  cases hb : (β f x).2.2 with
  | live => simp
  | nil => simp
  | odd q =>
    by_cases hk : o * z = 0
    · simp [hk, hb]
    · simp [hk, Addr.add]
theorem sl_nil (β : Nm) (n b q z m c : Nat) : (C.sl n 0 z 0 m c).ren (bind β n (b, q, .nil)) = .slice none m c := by
  rw [sl_adr]
  simp [adr, bind_new]
theorem run_append_off (w : World) (t ty e e0 : Nat) (i : TypeInfo) (ht : P.underlying t = some (.slice e)) (hi : P.info? e = some i)
    (b off sLen sCap : Nat) (cur : Array Value) (hg : w.heap[b]? = some (.cells cur e0 (0, 0)))
    (ad : Addr) (m c : Nat) (news : List Value) (hl : news.length = m * i.size) (hnews : ∀ j u, news[j]? = some u → w.cell? (ad.add j) = some u) (h1 : ∀ u ∈ news, u.oneCell' = true)
    (hroom : sLen + m ≤ sCap) (hfit : off + sLen * i.size + news.length ≤ cur.size) :
    (Builtin.append_ #[t, t] ty #[.slice (some ⟨b, off, none⟩) sLen sCap, .slice (some ad) m c]).run P w =
      .ok (.slice (some ⟨b, off, none⟩) (sLen + m) sCap) (w.setRow b (cur.toList.take (off + sLen * i.size) ++ news ++ cur.toList.drop (off + sLen * i.size + news.length)).toArray) := by
  have hf := run_firstCells_some (P := P) w i.size m ad m c news hl hnews
  have hst := run_storeCells_at P b (off + sLen * i.size) e0 news 0 cur w hg (by simpa using hfit) h1
  simp only [Nat.add_zero] at hst
  simp [Builtin.append_, run_underlying ht, sizeOf, typeInfo, hi, Builtin.lenOf, hroom, hf, Addr.add_lit, hst]
theorem room_off (hr : Rel cx β s a w) {t ty e : Nat} (hu : P.underlying t = some (.slice e)) {i : TypeInfo} (hi : P.info? e = some i) {sz : Nat} (hs : i.size = sz) (hpos : 0 < sz)
    {f x n c o n' c' : Nat} {k : Bool} {fr : Nat → List C} (hget : get s.h f x = .row true k e sz n' c' fr) (hon : o + n ≤ n') (hoc : o + c ≤ c')
    {f2 x2 o2 m c2 : Nat} {own2 k2 : Bool} {e2 n2 cc2 : Nat} {g : Nat → List C} (hnl2 : (β f2 x2).2.2 = .live) (hc2 : (Ck.row own2 k2 e2 sz n2 cc2 g).holds β w (β f2 x2)) (hcb2 : (Ck.row own2 k2 e2 sz n2 cc2 g).bel s.h.length) (hom : o2 + m ≤ n2)
    (hroom : n + m ≤ c) (hc0 : c ≠ 0) {h1 : List Fam} (hlen : h1.length = s.h.length) (hno : get h1 f x = .no) (hsame : ∀ g y, (g, y) ≠ (f, x) → get h1 g y = get s.h g y) :
    ∃ w', (Builtin.append_ #[t, t] ty #[(C.sl f x sz o n c).ren β, (C.sl f2 x2 sz o2 m c2).ren β]).run P w = .ok ((C.sl s.h.length 0 sz 0 (n + m) c).ren (bind β s.h.length (shiftA (β f x) (o * sz)))) w' ∧
      Rel cx (bind β s.h.length (shiftA (β f x) (o * sz))) ⟨s.t, h1 ++ [.one (.row true (k || k2) e sz (n + m) c (appF n (fun i => fr (o + i)) o2 g))]⟩ a w' := by
  subst hs
  obtain ⟨news, hnl, hnews, hone, hncell⟩ := row_news hc2 hpos hom
  have hc := hr.ft.ck f x
  have hcb := hr.wf.h f x
  rw [hget] at hc hcb
  obtain ⟨hnc, hnil, hkf, hlz1, hblk⟩ := hc
  have hc'0 : c' ≠ 0 := by omega
  have hfl : (β f x).2.2 = .live := by
    exact Fl.live_of fun hb => by exact absurd (hnil hb) hc'0
  obtain ⟨cur, te, fz, hb, hcc, how⟩ := hblk hc'0
  obtain ⟨rfl, rfl, hcm, hcs⟩ := how rfl
  have hoc' : (o + c) * i.size ≤ c' * i.size := Nat.mul_le_mul_right _ hoc
  have hnm : (n + m) * i.size ≤ c * i.size := Nat.mul_le_mul_right _ hroom
  rw [Nat.add_mul] at hoc' hnm
  have hbx : shiftA (β f x) (o * i.size) = ((β f x).1, (β f x).2.1 + o * i.size, .live) := by unfold shiftA; rw [hfl]
  generalize hB : (β f x).2.1 + o * i.size = B at *
  have hfit : B + n * i.size + news.length ≤ cur.size := by rw [hnl]; omega
  have hrun := run_append_off (P := P) w t ty te te i hu hi (β f x).1 B n c cur hb (place β f2 x2 (o2 * i.size)) m c2 news hnl hnews hone hroom hfit
  rw [hbx]
  refine ⟨w.setRow (β f x).1 (cur.toList.take (B + n * i.size) ++ news ++ cur.toList.drop (B + n * i.size + news.length)).toArray, ?_, hr.grown hlen (fun g y => ?_) (row := some (β f x).1) (A := ((β f x).1, B, .live)) ⟨rfl, rfl, rfl, by simp, fun k _ hk => setRow_other w _ k _ (fun e => hk (by rw [e]))⟩ ?_ ?_ ?_ ?_ (.inr rfl)⟩
  · have e0 : (C.sl s.h.length 0 i.size 0 (n + m) c).ren (bind β s.h.length ((β f x).1, B, .live)) = .slice (some ⟨(β f x).1, B, none⟩) (n + m) c := by
      rw [sl_adr]; simp [adr, place, bind_new]
    rw [e0]
    have e1 : (C.sl f x i.size o n c).ren β = .slice (some ⟨(β f x).1, B, none⟩) n c := by rw [sl_adr]; simp [adr, place, hfl, hB]
    rw [e1, sl_adr]
    unfold adr
    rw [hnl2]
    exact hrun
  · by_cases he : (g, y) = (f, x)
    · cases he; exact .inl hno
    · exact .inr (hsame g y he)
  · refine row_app (e := te) (xs := (cur.toList.drop B).take (n * i.size)) (news := news) (setRow_heap w _ cur _ te _ hb) ?_ hroom (by omega) ?_ ?_ ?_ ?_ ?_ ?_
    · simp only [List.size_toArray, List.length_append, List.length_take, List.length_drop, Array.length_toList]; omega
    · have hBl : B + n * i.size ≤ cur.toList.length := by rw [Array.length_toList]; omega
      have e2 : (cur.toList.take (B + n * i.size) ++ news ++ cur.toList.drop (B + n * i.size + news.length)).drop B = (cur.toList.drop B).take (n * i.size) ++ (news ++ cur.toList.drop (B + n * i.size + news.length)) := by
        rw [List.append_assoc, List.drop_append_of_le_length (by rw [List.length_take]; omega), List.drop_take]
        congr 2
        omega
      show List.take _ (List.drop B (cur.toList.take (B + n * i.size) ++ news ++ cur.toList.drop (B + n * i.size + news.length))) = _
      rw [e2, ← List.append_assoc]
      have : (n + m) * i.size = ((cur.toList.drop B).take (n * i.size) ++ news).length := by
        rw [List.length_append, List.length_take, List.length_drop, hnl, Nat.add_mul]
        omega
      rw [this]
      exact List.take_left
    · rw [List.length_take, List.length_drop, Array.length_toList]
      omega
    · intro i' hi'
      refine ⟨hlz1 (o + i') (by omega), fun j v hj => ?_⟩
      have hjz : j < i.size := by have := (List.getElem?_eq_some_iff.1 hj).1; rw [hlz1 (o + i') (by omega)] at this; exact this
      have hlt : i' * i.size + j < n * i.size := by
        have : (i' + 1) * i.size ≤ n * i.size := Nat.mul_le_mul_right _ hi'
        rw [Nat.add_mul] at this; omega
      rw [List.getElem?_take_of_lt hlt, List.getElem?_drop, Array.getElem?_toList]
      have := hcc (o + i') (by omega) j v hj
      rw [← hB, show (β f x).2.1 + o * i.size + (i' * i.size + j) = (β f x).2.1 + ((o + i') * i.size + j) from by rw [Nat.add_mul]; omega]
      exact this
    · intro i' hi'
      obtain ⟨_, _, _, hlz, _⟩ := hc2
      exact ⟨hlz (o2 + i') (by omega), hncell i' hi'⟩
    · intro hk i' hi'
      exact hkf (Bool.or_eq_false_iff.1 hk).1 (o + i') (by omega)
    · intro hk i' hi'
      obtain ⟨_, _, hf2, _⟩ := hc2
      exact hf2 (Bool.or_eq_false_iff.1 hk).2 (o2 + i') (by omega)
  · intro i' hi' v hv
    unfold appF at hv
    by_cases hin : i' < n
    · rw [if_pos hin] at hv; exact hcb (o + i') (by omega) v hv
    · rw [if_neg hin] at hv; exact hcb2 (o2 + (i' - n)) (by omega) v hv
  · intro b hbb
    cases hbb
    exact ⟨f, x, by rw [hget]; exact row_owned hc'0, rfl⟩
  · intro b hbb g y hk
    cases hbb
    by_cases he : (g, y) = (f, x)
    · cases he; rw [hno] at hk; cases hk
    · rw [hsame g y he] at hk
      exact fun e => hr.ft.sep f x g y (fun e => he e.symm) (by rw [hget]; exact row_owned hc'0) hk e.symm
theorem room_case (hr : Rel cx β s a w) {t ty e : Nat} (hu : P.underlying t = some (.slice e)) {i : TypeInfo} (hi : P.info? e = some i) {sz : Nat} (hs : i.size = sz) (hpos : 0 < sz)
    {f x n c : Nat} {k : Bool} {fr : Nat → List C} (hget : get s.h f x = .row true k e sz n c fr)
    {f2 x2 o2 m c2 : Nat} {own2 k2 : Bool} {e2 n2 cc2 : Nat} {g : Nat → List C} (hnl2 : (β f2 x2).2.2 = .live) (hc2 : (Ck.row own2 k2 e2 sz n2 cc2 g).holds β w (β f2 x2)) (hcb2 : (Ck.row own2 k2 e2 sz n2 cc2 g).bel s.h.length) (hom : o2 + m ≤ n2)
    (hroom : n + m ≤ c) (hc0 : c ≠ 0) {h1 : List Fam} (hlen : h1.length = s.h.length) (hno : get h1 f x = .no) (hsame : ∀ g y, (g, y) ≠ (f, x) → get h1 g y = get s.h g y) :
    ∃ w', (Builtin.append_ #[t, t] ty #[(C.sl f x sz 0 n c).ren β, (C.sl f2 x2 sz o2 m c2).ren β]).run P w = .ok ((C.sl s.h.length 0 sz 0 (n + m) c).ren (bind β s.h.length (β f x))) w' ∧
      Rel cx (bind β s.h.length (β f x)) ⟨s.t, h1 ++ [.one (.row true (k || k2) e sz (n + m) c (appF n fr o2 g))]⟩ a w' := by
  have hc := hr.ft.ck f x
  rw [hget] at hc
  have hfl : (β f x).2.2 = .live := Fl.live_of fun hb => by exact absurd (hc.2.1 hb) hc0
  have := room_off (P := P) (ty := ty) (o := 0) (n := n) (c := c) hr hu hi hs hpos hget (by omega) (by omega) hnl2 hc2 hcb2 hom hroom hc0 hlen hno hsame (c2 := c2)
  have e1 : shiftA (β f x) (0 * sz) = β f x := by
    unfold shiftA
    rw [hfl, Nat.zero_mul]
    exact Prod.ext rfl (Prod.ext rfl hfl.symm)
  have e2 : (fun i => fr (0 + i)) = fr := by funext i; rw [Nat.zero_add]
  rw [e1, e2] at this
  exact this
theorem Val.mk_c {c : C} {β' : Nm} {h' : List Fam} {w' : World} {K : T → List Fam → Prop} {x : Sem Value} (hrun : x.run P w = .ok (c.ren β') w') (hk : K (.c c) h') (hb : c.bel h'.length) (hr : Rel cx β' ⟨s.t, h'⟩ a w') (hag : Agree s.h.length β β') (hl : s.h.length ≤ h'.length) : Val P cx β s a w K (do pure (.value (← x))) :=
  ⟨.c c, β', h', w', andVw hrun, hk, hb, hr, hag, hl⟩
theorem Rel.retake (hr : Rel cx β s a w) {f x : Nat} {k : Bool} {e z n c : Nat} {fr : Nat → List C} (hg : get s.h f x = .row true k e z n c fr) {h1 : List Fam} (hlen : h1.length = s.h.length) (hno : get h1 f x = .no) (hsame : ∀ g y, (g, y) ≠ (f, x) → get h1 g y = get s.h g y)
    {k' : Bool} {e' z' n' c' : Nat} {fr' : Nat → List C} {A : Nat × Nat × Fl} (hA : A.1 = (β f x).1) (hck : (Ck.row true k' e' z' n' c' fr').holds β w A) (hbel : (Ck.row true k' e' z' n' c' fr').bel s.h.length) (hcc : c' ≠ 0 → c ≠ 0) :
    Rel cx (bind β s.h.length A) ⟨s.t, h1 ++ [.one (.row true k' e' z' n' c' fr')]⟩ a w := by
  have hsub : ∀ g y, get h1 g y = .no ∨ get h1 g y = get s.h g y := by
    intro g y
    by_cases he : (g, y) = (f, x)
    · cases he; exact .inl hno
    · exact .inr (hsame g y he)
  by_cases hc0 : c' = 0
  · subst hc0
    have hag := bind_agree β s.h.length A
    refine hr.step (by simp; omega) hag ?_ ?_ rfl rfl rfl (Nat.le_refl _) (fun b hb _ => rfl) ?_ ?_
    · refine hr.ft.one s.h.length 0 s.h.length hag ?_ ?_
      · rw [← hlen, get_add_new, hlen, bind_new]
        exact Ck.holds_agree hbel hag hck
      · intro f' x' hne
        by_cases hf' : f' < s.h.length
        · rw [get_add_lt x' (by omega)]
          rcases hsub f' x' with q | q
          · exact .inl q
          · right
            refine ⟨q, (hag f' x' hf').symm, hr.wf.h f' x', fun hk => ⟨rfl, fun hkn => ?_⟩⟩
            rw [← hlen, get_add_new] at hkn
            cases hkn
        · left
          rw [← hlen] at hne
          exact get_add_no (by omega) hne
    · intro f' x'
      by_cases he : (f', x') = (s.h.length, 0)
      · cases he; rw [← hlen, get_add_new]; exact Ck.bel_mono hbel (by simp; omega)
      · by_cases hf' : f' < s.h.length
        · rw [get_add_lt x' (by omega)]
          rcases hsub f' x' with q | q
          · rw [q]; trivial
          · rw [q]; exact Ck.bel_mono (hr.wf.h f' x') (by simp; omega)
        · rw [get_add_no (by omega) (by rw [hlen]; exact he)]; trivial
    · intro f' x' hob
      by_cases he : (f', x') = (s.h.length, 0)
      · cases he; rw [← hlen, get_add_new] at hob; cases hob
      · by_cases hf' : f' < s.h.length
        · rw [get_add_lt x' (by omega)] at hob
          rcases hsub f' x' with q | q
          · rw [q] at hob; cases hob
          · rw [q] at hob; exact .inl ⟨f', x', hob, by rw [hag f' x' hf']⟩
        · rw [get_add_no (by omega) (by rw [hlen]; exact he)] at hob; cases hob
    · intro f' x' hob
      by_cases he : (f', x') = (s.h.length, 0)
      · cases he; rw [← hlen, get_add_new] at hob; cases hob
      · by_cases hf' : f' < s.h.length
        · rw [get_add_lt x' (by omega)] at hob
          rcases hsub f' x' with q | q
          · rw [q] at hob; cases hob
          · rw [q] at hob; exact .inl ⟨f', x', hob, by rw [hag f' x' hf']⟩
        · rw [get_add_no (by omega) (by rw [hlen]; exact he)] at hob; cases hob
  · have hownd : (get s.h f x).owned = true := by rw [hg]; exact row_owned (hcc hc0)
    refine hr.grown hlen hsub (row := some (β f x).1) (A := A) ⟨rfl, rfl, rfl, Nat.le_refl _, fun _ _ _ => rfl⟩ hck hbel ?_ ?_ (.inr (by rw [hA]))
    · intro b hbb; cases hbb; exact ⟨f, x, hownd, rfl⟩
    · intro b hbb g' y hk
      cases hbb
      by_cases he : (g', y) = (f, x)
      · cases he; rw [hno] at hk; cases hk
      · rw [hsame g' y he] at hk
        exact fun e => hr.ft.sep f x g' y (fun e => he e.symm) hownd hk e.symm
theorem spl_case (hr : Rel cx β s a w) {t ty e : Nat} (hu : P.underlying t = some (.slice e)) {i : TypeInfo} (hi : P.info? e = some i) {sz : Nat} (hs : i.size = sz) (hpos : 0 < sz)
    {f x n n' c : Nat} {k : Bool} {fr : Nat → List C} (hget : get s.h f x = .row true k e sz n' c fr) (hnn : n ≤ n')
    {f2 x2 o2 m c2 : Nat} {own2 k2 : Bool} {e2 n2 cc2 : Nat} {g : Nat → List C} (hnl2 : m ≠ 0 → (β f2 x2).2.2 = .live) (hc2 : (Ck.row own2 k2 e2 sz n2 cc2 g).holds β w (β f2 x2)) (hcb2 : (Ck.row own2 k2 e2 sz n2 cc2 g).bel s.h.length) (hom : o2 + m ≤ n2)
    (hroom : n + m ≤ c) (hc0 : c ≠ 0) (hnothing : m = 0 → (Builtin.append_ #[t, t] ty #[.slice (adr β f x sz 0) n c, (C.sl f2 x2 sz o2 m c2).ren β]).run P w = .ok (.slice (adr β f x sz 0) n c) w) {h1 : List Fam} (hlen : h1.length = s.h.length) (hnew : get h1 f x = .row true (k || k2) e sz (max n' (n + m)) c (splF n m fr o2 g)) (hsame : ∀ g y, (g, y) ≠ (f, x) → get h1 g y = get s.h g y) :
    ∃ w', (Builtin.append_ #[t, t] ty #[(C.sl f x sz 0 n c).ren β, (C.sl f2 x2 sz o2 m c2).ren β]).run P w = .ok ((C.sl f x sz 0 (n + m) c).ren β) w' ∧ Rel cx β ⟨s.t, h1⟩ a w' := by
  subst hs
  obtain ⟨news, hnl, hnews, hone, hncell⟩ := row_news hc2 hpos hom
  have hc := hr.ft.ck f x
  have hcb := hr.wf.h f x
  rw [hget] at hc hcb
  obtain ⟨hnc, hnil, hkf, hlz1, hblk⟩ := hc
  have hfl : (β f x).2.2 = .live := by
    exact Fl.live_of fun hb => by exact absurd (hnil hb) hc0
  obtain ⟨cur, te, fz, hb, hcc, how⟩ := hblk hc0
  obtain ⟨rfl, rfl, hcm, hcs⟩ := how rfl
  have hnm : (n + m) * i.size ≤ c * i.size := Nat.mul_le_mul_right _ hroom
  rw [Nat.add_mul] at hnm
  obtain ⟨_, _, hf2, hlz2, _⟩ := hc2
  have hlz : ∀ i', i' < max n' (n + m) → (splF n m fr o2 g i').length = i.size := by
    intro i' hi'
    unfold splF
    by_cases h1 : i' < n
    · rw [if_pos h1]; exact hlz1 i' (by omega)
    · by_cases h2 : i' < n + m
      · rw [if_neg h1, if_pos h2]; exact hlz2 _ (by omega)
      · rw [if_neg h1, if_neg h2]; exact hlz1 i' (by omega)
  have hflat : (k || k2) = false → ∀ i', i' < max n' (n + m) → ∀ v ∈ splF n m fr o2 g i', v.flat = true := by
    intro hk i' hi' v hv
    unfold splF at hv
    by_cases h1 : i' < n
    · rw [if_pos h1] at hv; exact hkf (Bool.or_eq_false_iff.1 hk).1 i' (by omega) v hv
    · by_cases h2 : i' < n + m
      · rw [if_neg h1, if_pos h2] at hv; exact hf2 (Bool.or_eq_false_iff.1 hk).2 _ (by omega) v hv
      · rw [if_neg h1, if_neg h2] at hv; exact hkf (Bool.or_eq_false_iff.1 hk).1 i' (by omega) v hv
  have hbel : (Ck.row true (k || k2) te i.size (max n' (n + m)) c (splF n m fr o2 g)).bel s.h.length := by
    intro i' hi' v hv
    unfold splF at hv
    by_cases h1 : i' < n
    · rw [if_pos h1] at hv; exact hcb i' (by omega) v hv
    · by_cases h2 : i' < n + m
      · rw [if_neg h1, if_pos h2] at hv; exact hcb2 _ (by omega) v hv
      · rw [if_neg h1, if_neg h2] at hv; exact hcb i' (by omega) v hv
  have hownd : (get s.h f x).owned = true := by rw [hget]; exact row_owned hc0
  have hmax : max n' (n + m) ≤ c := by omega
  by_cases hm : m = 0
  · refine ⟨w, ?_, hr.write hownd (row_owned hc0) hlen hnew hsame ⟨hmax, hnil, hflat, hlz, fun _ => ⟨cur, te, (0, 0), hb, fun i' hi' j v hj => ?_, fun _ => ⟨rfl, rfl, hcm, hcs⟩⟩⟩ hbel rfl rfl rfl rfl (fun _ _ => rfl)⟩
    · have e1 : (C.sl f x i.size 0 n c).ren β = .slice (adr β f x i.size 0) n c := sl_adr ..
      have e2 : (C.sl f x i.size 0 (n + m) c).ren β = .slice (adr β f x i.size 0) n c := by rw [sl_adr, hm]; rfl
      rw [e1, e2]
      exact hnothing hm
    · have : splF n m fr o2 g i' = fr i' := by
        unfold splF
        by_cases h1 : i' < n
        · rw [if_pos h1]
        · rw [if_neg h1, if_neg (by omega)]
      rw [this] at hj
      exact hcc i' (by omega) j v hj
  · have hfit : (β f x).2.1 + n * i.size + news.length ≤ cur.size := by rw [hnl]; omega
    have hrun := run_append_off (P := P) w t ty te te i hu hi (β f x).1 (β f x).2.1 n c cur hb (place β f2 x2 (o2 * i.size)) m c2 news hnl hnews hone hroom hfit
    have e1 : ∀ n, (C.sl f x i.size 0 n c).ren β = .slice (some ⟨(β f x).1, (β f x).2.1, none⟩) n c := fun n => by rw [sl_adr]; simp [adr, place, hfl]
    refine ⟨w.setRow (β f x).1 (cur.toList.take ((β f x).2.1 + n * i.size) ++ news ++ cur.toList.drop ((β f x).2.1 + n * i.size + news.length)).toArray, ?_, hr.write hownd (row_owned hc0) hlen hnew hsame ⟨hmax, hnil, hflat, hlz, fun _ => ⟨_, te, (0, 0), setRow_heap w _ cur _ te _ hb, fun i' hi' j v hj => ?_, fun _ => ⟨rfl, rfl, hcm, ?_⟩⟩⟩ hbel rfl rfl rfl (by simp [World.setRow]) (fun b hb' => setRow_other w _ b _ hb')⟩
    · rw [e1, e1, sl_adr]
      unfold adr
      rw [hnl2 hm]
      exact hrun
    · have hjz : j < i.size := by have := (List.getElem?_eq_some_iff.1 hj).1; rw [hlz i' hi'] at this; exact this
      simp only [List.getElem?_toArray]
      rw [lay_get (by rw [Array.length_toList]; exact hfit), hnl]
      unfold splF at hj
      by_cases h1 : i' < n
      · rw [if_pos h1] at hj
        have hlt : i' * i.size + j < n * i.size := by
          have : (i' + 1) * i.size ≤ n * i.size := Nat.mul_le_mul_right _ h1
          rw [Nat.add_mul] at this; omega
        rw [if_neg (by omega), Array.getElem?_toList]
        have := hcc i' (by omega) j v hj
        exact this
      · by_cases h2 : i' < n + m
        · rw [if_neg h1, if_pos h2] at hj
          have e3 : i' * i.size = n * i.size + (i' - n) * i.size := by rw [← Nat.add_mul]; congr 1; omega
          have h5 : ((i' - n) + 1) * i.size ≤ m * i.size := Nat.mul_le_mul_right _ (by omega)
          rw [Nat.add_mul] at h5
          rw [if_pos (by omega), show (β f x).2.1 + (i' * i.size + j) - ((β f x).2.1 + n * i.size) = (i' - n) * i.size + j from by omega]
          exact hncell (i' - n) (by omega) j v hj
        · rw [if_neg h1, if_neg h2] at hj
          have h5 : (n + m) * i.size ≤ i' * i.size := Nat.mul_le_mul_right _ (by omega)
          rw [Nat.add_mul] at h5
          rw [if_neg (by omega), Array.getElem?_toList]
          have := hcc i' (by omega) j v hj
          exact this
    · simp only [List.size_toArray, List.length_append, List.length_take, List.length_drop, Array.length_toList]; omega
theorem cap_new {t : List (Nat × T)} {h1 : List Fam} {own k : Bool} {e z n c : Nat} {f : Nat → List C} {β' : Nm} {w' : World} (hr : Rel cx β' ⟨t, h1 ++ [.one (.row own k e z n c f)]⟩ a w') : n ≤ c := by
  have := hr.ft.ck h1.length 0
  rw [get_add_new] at this
  exact this.1
theorem append_of (hv : Valid tb P) (hr : Rel cx β s a w) {t ty e : Nat} (hu : P.underlying t = some (.slice e)) {d : Td} (hd : Td.of P e = some d) {v x : C} (hvb : v.bel s.h.length) {K : T → List Fam → Prop} (h : appendK d e s.h v x K) :
    Val P cx β s a w K (do pure (.value (← Builtin.append_ #[t, t] ty #[v.ren β, x.ren β]))) := by
  obtain ⟨hz, hA⟩ := ifB_of h
  obtain ⟨hpos, hB⟩ := ifB_of hA
  clear h hA
  have hpos : 0 < d.size := by have := Nat.le_of_ble_eq_true hpos; omega
  obtain ⟨i, u, hi, hu', hs, hby, hsh, hzz⟩ := Td.of_spec hd
  obtain ⟨z, hzero, hzl, hzc⟩ := hzz hz
  have hzs : z.cells.size = d.size := by rw [hzc β]; simp [renL, hzl, hs]
  have nothing : ∀ (o : Option Addr) (n c : Nat) (x : Value), n ≤ c → (x = .slice none 0 0 ∨ ∃ ad c', x = .slice (some ad) 0 c') → (Builtin.append_ #[t, t] ty #[.slice o n c, x]).run P w = .ok (.slice o n c) w := by
    intro o n c x hle hx
    rcases hx with rfl | ⟨ad, c', rfl⟩ <;> cases o <;> simp [Builtin.append_, run_underlying hu, sizeOf, typeInfo, hi, Builtin.lenOf, hle, Builtin.firstCells, loadCells, loadCellsFrom, storeCells]
  cases x with
  | nils =>
    cases v with
    | nils =>
      refine ⟨_, β, _, w, andVw (?_ : Sem.run P (Builtin.append_ #[t, t] ty #[C.nils.ren β, C.nils.ren β]) w = .ok _ _), hB, trivial, hr, fun _ _ _ => rfl, Nat.le_refl _⟩
      exact nothing none 0 0 _ (Nat.le_refl _) (.inl rfl)
    | sl f x z o n c =>
      refine ⟨_, β, _, w, andVw (?_ : Sem.run P (Builtin.append_ #[t, t] ty #[(C.sl f x z o n c).ren β, C.nils.ren β]) w = .ok ((T.c (C.sl f x z o n c)).ren β) _), hB.2, hvb, hr, fun _ _ _ => rfl, Nat.le_refl _⟩
      simp only [T.ren]
      rw [sl_adr]
      exact nothing _ n c _ hB.1 (.inl rfl)
    | _ => exact hB.elim
  | sl f2 x2 z2 o2 m c2 =>
    obtain ⟨hz2, hC⟩ := hB
    subst hz2
    have hD := getK_of hC
    clear hC
    have hc2 := hr.ft.ck f2 x2
    have hw2 := hr.wf.h f2 x2
    split at hD
    case h_2 => exact hD.elim
    rename_i own2 k2 e2 z2' n2 cc2 g hg2
    rw [hg2] at hc2 hw2
    obtain ⟨hz2', hom, hE⟩ := hD
    subst hz2'
    have hfl2 : m ≠ 0 → (β f2 x2).2.2 = .live := fun hm => by
      obtain ⟨hnc, hnil, _⟩ := hc2
      exact Fl.live_of fun hb => by have := hnil hb; omega
    have srcV : ∃ ad : Option Addr, (C.sl f2 x2 d.size o2 m c2).ren β = .slice ad m c2 := ⟨_, sl_adr ..⟩
    have nothing2 : ∀ (o : Option Addr) (n c : Nat), n ≤ c → m = 0 → (Builtin.append_ #[t, t] ty #[.slice o n c, (C.sl f2 x2 d.size o2 m c2).ren β]).run P w = .ok (.slice o n c) w := by
      intro o n c hle hm
      subst hm
      obtain ⟨ad, had⟩ := srcV
      rw [had]
      cases ad with
      | some ad => exact nothing o n c _ hle (.inr ⟨_, _, rfl⟩)
      | none =>
        cases o <;> simp [Builtin.append_, run_underlying hu, sizeOf, typeInfo, hi, Builtin.lenOf, hle, Builtin.firstCells, storeCells]
    cases v with
    | nils =>
      obtain ⟨⟨hml, hmb⟩, hF⟩ := hE
      by_cases hm : m = 0
      · have hG := addK_of (hF 0)
        refine Val.mk_c (c := .sl s.h.length 0 d.size 0 m 0) (β' := bind β s.h.length (0, 0, .nil)) (w' := w) ?_ (hG (by omega)) (by simp [C.bel]) (by subst hm; exact hr.addNil _) (bind_agree _ _ _) (by simp)
        rw [sl_nil]
        have := nothing2 none 0 0 (Nat.le_refl _) hm
        subst hm
        exact this
      · obtain ⟨cap, w', hrun, hrel⟩ := append_nil_of (P := P) (ty := ty) hr hu hi hzero hs.symm hzs hpos hby.symm (hfl2 hm) hc2 hw2 hom hm hml hmb (c2 := c2) rfl (fun _ _ => .inr rfl) (fun h => h) (fun _ _ => rfl)
        have hG := addK_of (hF cap)
        exact Val.mk_c hrun (hG (cap_new hrel)) (by simp [C.bel]) hrel (bind_agree _ _ _) (by simp)
    | sl f x z o n c =>
      have hF := getK_of hE
      have hc := hr.ft.ck f x
      have hw := hr.wf.h f x
      split at hF
      case h_2 => exact hF.elim
      rename_i own k e' z' n' c' fr hg
      have hncc : n' ≤ c' := by rw [hg] at hc; exact hc.1
      obtain ⟨⟨hza, hzb⟩, hF2⟩ := hF
      obtain ⟨⟨hml, hmb⟩, hG⟩ := hF2 hncc
      subst hza
      subst hzb
      have hfl : c' ≠ 0 → (β f x).2.2 = .live := fun hm => by
        rw [hg] at hc
        obtain ⟨hnc, hnil, _⟩ := hc
        exact Fl.live_of fun hb => by exact absurd (hnil hb) hm
      rcases hG with ⟨hown, ⟨he, hn, hcc, ho⟩, hH⟩ | ⟨⟨hcz, hnz, hon⟩, hH⟩ | ⟨⟨hown, he, ho, hcn, hnn⟩, hH⟩ | ⟨⟨hown, he, ho, hnn, hcc, hroom, hc0⟩, hH⟩ | ⟨⟨hown, he, hon, hoc, hnc1⟩, hH⟩
      · subst he hn hcc ho hown
        have hsub : ∀ (h1 : List Fam), (∀ g y, (g, y) ≠ (f, x) → get h1 g y = get s.h g y) → get h1 f x = .no → ∀ g y, get h1 g y = .no ∨ get h1 g y = get s.h g y := by
          intro h1 hsame hno g y
          by_cases he : (g, y) = (f, x)
          · cases he; exact .inl hno
          · exact .inr (hsame g y he)
        by_cases hm : m = 0
        ·
          obtain ⟨h1, hI, hlen, hno, hsame⟩ := updK_of (hH c')
          have hJ := addK_of hI
          rw [hlen] at hJ
          have hck : (Ck.row true (k || k2) e' d.size (n' + m) c' (appF n' fr o2 g)).holds β w (β f x) := by
            rw [hg] at hc
            obtain ⟨q1, q2, q3, q4, q5⟩ := hc
            have hap : ∀ i, i < n' + m → appF n' fr o2 g i = fr i := fun i hi' => by unfold appF; rw [if_pos (by omega)]
            refine ⟨by omega, q2, fun hk i hi' v hv => ?_, fun i hi' => ?_, fun h0 => ?_⟩
            · rw [hap i hi'] at hv; exact q3 (Bool.or_eq_false_iff.1 hk).1 i (by omega) v hv
            · rw [hap i hi']; exact q4 i (by omega)
            · obtain ⟨cur, te, fz, r1, r2, r3⟩ := q5 h0
              exact ⟨cur, te, fz, r1, fun i hi' j v hj => by rw [hap i hi'] at hj; exact r2 i (by omega) j v hj, r3⟩
          have hbel : (Ck.row true (k || k2) e' d.size (n' + m) c' (appF n' fr o2 g)).bel s.h.length := by
            rw [hg] at hw
            intro i hi' v hv
            unfold appF at hv
            rw [if_pos (by omega)] at hv
            exact hw i (by omega) v hv
          have hrel := hr.retake hg hlen hno hsame rfl hck hbel (fun h => h)
          refine Val.mk_c (c := .sl s.h.length 0 d.size 0 (n' + m) c') ?_ (hJ (by omega)) (by simp [C.bel, hlen]) hrel (bind_agree _ _ _) (by simp <;> omega)
          have e1 : adr (bind β s.h.length (β f x)) s.h.length 0 d.size 0 = adr β f x d.size 0 := by
            unfold adr place
            rw [bind_new]
          have e2 : (C.sl s.h.length 0 d.size 0 (n' + m) c').ren (bind β s.h.length (β f x)) = .slice (adr β f x d.size 0) n' c' := by
            rw [sl_adr, e1]
            subst hm
            rfl
          have e3 : (C.sl f x d.size 0 n' c').ren β = .slice (adr β f x d.size 0) n' c' := sl_adr ..
          rw [e2, e3]
          exact nothing2 (adr β f x d.size 0) n' c' hncc hm
        · by_cases hroom : n' + m ≤ c'
          · obtain ⟨h1, hI, hlen, hno, hsame⟩ := updK_of (hH c')
            obtain ⟨w', hrun, hrel⟩ := room_case (P := P) (ty := ty) hr hu hi hs.symm hpos hg (hfl2 hm) hc2 hw2 hom hroom (by omega) hlen hno hsame (c2 := c2)
            have hJ := addK_of hI
            rw [hlen] at hJ
            exact Val.mk_c hrun (hJ (cap_new hrel)) (by simp [C.bel, hlen]) hrel (bind_agree _ _ _) (by simp <;> omega)
          · rw [hg] at hc hw
            by_cases hc0 : (β f x).2.2 = .nil
            ·
              have hz0 : c' = 0 := hc.2.1 (by rw [hc0]; simp)
              have hn0 : n' = 0 := by omega
              subst hz0 hn0
              have hgen : ∀ {h1 : List Fam}, h1.length = s.h.length → (∀ g y, get h1 g y = .no ∨ get h1 g y = get s.h g y) → _ := fun {h1} hlen hsub' => append_nil_of (P := P) (ty := ty) hr hu hi hzero hs.symm hzs hpos hby.symm (hfl2 hm) hc2 hw2 hom hm (by omega) (by simpa using hmb) (c2 := c2) hlen hsub' (kk := k || k2) (fun h => (Bool.or_eq_false_iff.1 h).2) (G := appF 0 fr o2 g) (fun i hi' => by simp [appF])
              obtain ⟨h1, hI1, hlen, hno, hsame⟩ := updK_of (hH 0)
              obtain ⟨cap, w', hrun, hrel⟩ := hgen hlen (hsub h1 hsame hno)
              obtain ⟨h2, hI, hlen2, hno2, hsame2⟩ := updK_of (hH cap)
              obtain ⟨cap', w'', hrun', hrel'⟩ := hgen hlen2 (hsub h2 hsame2 hno2)
              rw [hrun] at hrun'
              simp only [sl_new, Result.ok.injEq, Value.slice.injEq, true_and] at hrun'
              obtain ⟨rfl, rfl⟩ := hrun'
              have hJ := addK_of hI
              rw [hlen2] at hJ
              have hv0 : (C.sl f x d.size 0 0 0).ren β = C.nils.ren β := by rw [sl_adr]; unfold adr; rw [hc0]; rfl
              rw [← hv0] at hrun
              refine Val.mk_c (c := .sl s.h.length 0 d.size 0 (0 + m) cap) (β' := bind β s.h.length (w.heap.size, 0, .live)) (w' := w') ?_ (hJ (by have := cap_new hrel'; omega)) (by simp [C.bel, hlen2]) ?_ (bind_agree _ _ _) (by simp <;> omega)
              · rw [Nat.zero_add]; exact hrun
              · rw [Nat.zero_add]; exact hrel'
            · have hc0 : (β f x).2.2 ≠ .nil := hc0
              have hgen : ∀ {h1 : List Fam}, h1.length = s.h.length → (∀ g y, get h1 g y = .no ∨ get h1 g y = get s.h g y) → _ := fun {h1} hlen hsub' => grow_case (P := P) (ty := ty) (o := 0) hr hu hi hzero hs.symm hzs hpos hc0 hc hw (by omega : 0 + n' ≤ n') hby.symm (hfl2 hm) hc2 hw2 hom (c := c') (c2 := c2) (by omega) hml hmb hlen hsub'
              obtain ⟨h1, hI1, hlen, hno, hsame⟩ := updK_of (hH 0)
              obtain ⟨cap, w', hrun, hrel⟩ := hgen hlen (hsub h1 hsame hno)
              obtain ⟨h2, hI, hlen2, hno2, hsame2⟩ := updK_of (hH cap)
              obtain ⟨cap', w'', hrun', hrel'⟩ := hgen hlen2 (hsub h2 hsame2 hno2)
              rw [hrun] at hrun'
              simp only [sl_new, Result.ok.injEq, Value.slice.injEq, true_and] at hrun'
              obtain ⟨rfl, rfl⟩ := hrun'
              have hJ := addK_of hI
              rw [hlen2] at hJ
              have e1 : (fun i => fr (0 + i)) = fr := by funext i; rw [Nat.zero_add]
              rw [e1] at hrel'
              exact Val.mk_c hrun (hJ (cap_new hrel')) (by simp [C.bel, hlen2]) hrel' (bind_agree _ _ _) (by simp <;> omega)
      · subst hcz hnz
        rw [hg] at hc hw
        by_cases hm : m = 0
        · have hJ := addK_of (hH 0)
          refine Val.mk_c (c := .sl s.h.length 0 d.size 0 m 0) (β' := bind β s.h.length (shiftA (β f x) (o * d.size))) (w' := w) ?_ (hJ (by omega)) (by simp [C.bel]) (by subst hm; exact hr.addNil _) (bind_agree _ _ _) (by simp)
          have e1 : (C.sl s.h.length 0 d.size 0 m 0).ren (bind β s.h.length (shiftA (β f x) (o * d.size))) = .slice (adr β f x d.size o) 0 0 := by
            rw [sl_adr, hm, shift_adr]
          have e2 : (C.sl f x d.size o 0 0).ren β = .slice (adr β f x d.size o) 0 0 := sl_adr ..
          rw [e1, e2]
          exact nothing2 _ 0 0 (Nat.le_refl _) hm
        · by_cases hc0 : (β f x).2.2 = .nil
          · obtain ⟨cap, w', hrun, hrel⟩ := append_nil_of (P := P) (ty := ty) hr hu hi hzero hs.symm hzs hpos hby.symm (hfl2 hm) hc2 hw2 hom hm (by omega) (by simpa using hmb) (c2 := c2) rfl (fun _ _ => .inr rfl) (kk := k || k2) (fun h => (Bool.or_eq_false_iff.1 h).2) (G := fun i => g (o2 + i)) (fun i hi' => rfl)
            have hJ := addK_of (hH cap)
            have hv0 : (C.sl f x d.size o 0 0).ren β = C.nils.ren β := by rw [sl_adr]; unfold adr; rw [hc0]; rfl
            rw [← hv0] at hrun
            exact Val.mk_c hrun (hJ (cap_new hrel)) (by simp [C.bel]) hrel (bind_agree _ _ _) (by simp)
          · have hc0 : (β f x).2.2 ≠ .nil := hc0
            obtain ⟨cap, w', hrun, hrel⟩ := grow_case (P := P) (ty := ty) (o := o) (n := 0) (c := 0) hr hu hi hzero hs.symm hzs hpos hc0 hc hw (by omega) hby.symm (hfl2 hm) hc2 hw2 hom (c2 := c2) (by omega) hml hmb rfl (fun _ _ => .inr rfl)
            have hJ := addK_of (hH cap)
            have e1 : appF 0 (fun i => fr (o + i)) o2 g = fun i => g (o2 + i) := by funext i; simp [appF]
            rw [e1, Nat.zero_add] at hrel
            rw [Nat.zero_add] at hrun
            exact Val.mk_c hrun (hJ (cap_new hrel)) (by simp [C.bel]) hrel (bind_agree _ _ _) (by simp)
      · subst he ho hcn hown
        have hsub : ∀ (h1 : List Fam), (∀ g y, (g, y) ≠ (f, x) → get h1 g y = get s.h g y) → get h1 f x = .no → ∀ g y, get h1 g y = .no ∨ get h1 g y = get s.h g y := by
          intro h1 hsame hno g y
          by_cases he : (g, y) = (f, x)
          · cases he; exact .inl hno
          · exact .inr (hsame g y he)
        by_cases hm : m = 0
        · obtain ⟨h1, hI, hlen, hno, hsame⟩ := updK_of (hH c)
          have hJ := addK_of hI
          rw [hlen] at hJ
          have hap : ∀ i, i < c + m → appF c fr o2 g i = fr i := fun i hi' => by unfold appF; rw [if_pos (by omega)]
          have hck : (Ck.row true (k || k2) e' d.size (c + m) c (appF c fr o2 g)).holds β w (β f x) := by
            rw [hg] at hc
            obtain ⟨q1, q2, q3, q4, q5⟩ := hc
            refine ⟨by omega, fun h => by have := q2 h; omega, fun hk i hi' v hv => ?_, fun i hi' => ?_, fun h0 => ?_⟩
            · rw [hap i hi'] at hv; exact q3 (Bool.or_eq_false_iff.1 hk).1 i (by omega) v hv
            · rw [hap i hi']; exact q4 i (by omega)
            · obtain ⟨cur, te, fz, r1, r2, r3⟩ := q5 (by omega)
              refine ⟨cur, te, fz, r1, fun i hi' j v hj => by rw [hap i hi'] at hj; exact r2 i (by omega) j v hj, fun ho => ?_⟩
              obtain ⟨u2, u3, u4, u5⟩ := r3 ho
              have u6 : c * d.size ≤ c' * d.size := Nat.mul_le_mul_right _ (by omega)
              exact ⟨u2, u3, by omega, by omega⟩
          have hbel : (Ck.row true (k || k2) e' d.size (c + m) c (appF c fr o2 g)).bel s.h.length := by
            rw [hg] at hw
            intro i hi' v hv
            rw [hap i hi'] at hv
            exact hw i (by omega) v hv
          have hrel := hr.retake hg hlen hno hsame rfl hck hbel (by omega)
          refine Val.mk_c (c := .sl s.h.length 0 d.size 0 (c + m) c) ?_ (hJ (by omega)) (by simp [C.bel, hlen]) hrel (bind_agree _ _ _) (by simp <;> omega)
          have e1 : adr (bind β s.h.length (β f x)) s.h.length 0 d.size 0 = adr β f x d.size 0 := by
            unfold adr place
            rw [bind_new]
          have e2 : (C.sl s.h.length 0 d.size 0 (c + m) c).ren (bind β s.h.length (β f x)) = .slice (adr β f x d.size 0) c c := by
            rw [sl_adr, e1]
            subst hm
            rfl
          have e3 : (C.sl f x d.size 0 c c).ren β = .slice (adr β f x d.size 0) c c := sl_adr ..
          rw [e2, e3]
          exact nothing2 (adr β f x d.size 0) c c (Nat.le_refl _) hm
        · rw [hg] at hc hw
          by_cases hc0 : (β f x).2.2 = .nil
          · have hz0 : c' = 0 := hc.2.1 (by rw [hc0]; simp)
            have hn0 : c = 0 := by omega
            subst hn0
            have hgen : ∀ {h1 : List Fam}, h1.length = s.h.length → (∀ g y, get h1 g y = .no ∨ get h1 g y = get s.h g y) → _ := fun {h1} hlen hsub' => append_nil_of (P := P) (ty := ty) hr hu hi hzero hs.symm hzs hpos hby.symm (hfl2 hm) hc2 hw2 hom hm (by omega) (by simpa using hmb) (c2 := c2) hlen hsub' (kk := k || k2) (fun h => (Bool.or_eq_false_iff.1 h).2) (G := appF 0 fr o2 g) (fun i hi' => by simp [appF])
            obtain ⟨h1, hI1, hlen, hno, hsame⟩ := updK_of (hH 0)
            obtain ⟨cap, w', hrun, hrel⟩ := hgen hlen (hsub h1 hsame hno)
            obtain ⟨h2, hI, hlen2, hno2, hsame2⟩ := updK_of (hH cap)
            obtain ⟨cap', w'', hrun', hrel'⟩ := hgen hlen2 (hsub h2 hsame2 hno2)
            rw [hrun] at hrun'
            simp only [sl_new, Result.ok.injEq, Value.slice.injEq, true_and] at hrun'
            obtain ⟨rfl, rfl⟩ := hrun'
            have hJ := addK_of hI
            rw [hlen2] at hJ
            have hv0 : (C.sl f x d.size 0 0 0).ren β = C.nils.ren β := by rw [sl_adr]; unfold adr; rw [hc0]; rfl
            rw [← hv0] at hrun
            refine Val.mk_c (c := .sl s.h.length 0 d.size 0 (0 + m) cap) (β' := bind β s.h.length (w.heap.size, 0, .live)) (w' := w') ?_ (hJ (by have := cap_new hrel'; omega)) (by simp [C.bel, hlen2]) ?_ (bind_agree _ _ _) (by simp <;> omega)
            · rw [Nat.zero_add]; exact hrun
            · rw [Nat.zero_add]; exact hrel'
          · have hc0 : (β f x).2.2 ≠ .nil := hc0
            have hgen : ∀ {h1 : List Fam}, h1.length = s.h.length → (∀ g y, get h1 g y = .no ∨ get h1 g y = get s.h g y) → _ := fun {h1} hlen hsub' => grow_case (P := P) (ty := ty) (o := 0) hr hu hi hzero hs.symm hzs hpos hc0 hc hw (by omega : 0 + c ≤ n') hby.symm (hfl2 hm) hc2 hw2 hom (c := c) (c2 := c2) (by omega) hml hmb hlen hsub'
            obtain ⟨h1, hI1, hlen, hno, hsame⟩ := updK_of (hH 0)
            obtain ⟨cap, w', hrun, hrel⟩ := hgen hlen (hsub h1 hsame hno)
            obtain ⟨h2, hI, hlen2, hno2, hsame2⟩ := updK_of (hH cap)
            obtain ⟨cap', w'', hrun', hrel'⟩ := hgen hlen2 (hsub h2 hsame2 hno2)
            rw [hrun] at hrun'
            simp only [sl_new, Result.ok.injEq, Value.slice.injEq, true_and] at hrun'
            obtain ⟨rfl, rfl⟩ := hrun'
            have hJ := addK_of hI
            rw [hlen2] at hJ
            have e1 : (fun i => fr (0 + i)) = fr := by funext i; rw [Nat.zero_add]
            rw [e1] at hrel'
            exact Val.mk_c hrun (hJ (cap_new hrel')) (by simp [C.bel, hlen2]) hrel' (bind_agree _ _ _) (by simp <;> omega)
      · subst he ho hcc hown
        obtain ⟨h1, hI, hlen, hnew, hsame⟩ := updK_of hH
        obtain ⟨w', hrun, hrel⟩ := spl_case (P := P) (ty := ty) hr hu hi hs.symm hpos hg hnn hfl2 hc2 hw2 hom hroom hc0 (nothing2 _ _ _ (by omega)) hlen hnew hsame (c2 := c2)
        exact Val.mk_c hrun hI (by rw [hlen]; exact hvb) hrel (fun _ _ _ => rfl) (by omega)
      · subst he hown
        have hsub : ∀ (h1 : List Fam), (∀ g y, (g, y) ≠ (f, x) → get h1 g y = get s.h g y) → get h1 f x = .no → ∀ g y, get h1 g y = .no ∨ get h1 g y = get s.h g y := by
          intro h1 hsame hno g y
          by_cases he : (g, y) = (f, x)
          · cases he; exact .inl hno
          · exact .inr (hsame g y he)
        by_cases hm : m = 0
        · obtain ⟨h1, hI, hlen, hno, hsame⟩ := updK_of (hH c)
          have hJ := addK_of hI
          rw [hlen] at hJ
          have hap : ∀ i, i < n + m → appF n (fun i => fr (o + i)) o2 g i = fr (o + i) := fun i hi' => by unfold appF; rw [if_pos (by omega)]
          have hA : (shiftA (β f x) (o * d.size)).1 = (β f x).1 := by
            unfold shiftA
            split
            · split <;> rfl
            · rfl
          have hck : (Ck.row true (k || k2) e' d.size (n + m) c (appF n (fun i => fr (o + i)) o2 g)).holds β w (shiftA (β f x) (o * d.size)) := by
            rw [hg] at hc
            obtain ⟨q1, q2, q3, q4, q5⟩ := hc
            refine ⟨by omega, fun h => ?_, fun hk i hi' v hv => ?_, fun i hi' => ?_, fun h0 => ?_⟩
            · by_cases hc0 : c = 0
              · exact hc0
              · exfalso
                apply h
                unfold shiftA
                rw [hfl (by omega)]
            · rw [hap i hi'] at hv; exact q3 (Bool.or_eq_false_iff.1 hk).1 (o + i) (by omega) v hv
            · rw [hap i hi']; exact q4 (o + i) (by omega)
            · obtain ⟨cur, te, fz, r1, r2, r3⟩ := q5 (by omega)
              have e1 : shiftA (β f x) (o * d.size) = ((β f x).1, (β f x).2.1 + o * d.size, .live) := by unfold shiftA; rw [hfl (by omega)]
              rw [e1]
              refine ⟨cur, te, fz, r1, fun i hi' j v hj => ?_, fun ho => ?_⟩
              · rw [hap i hi'] at hj
                have := r2 (o + i) (by omega) j v hj
                rw [← this]
                congr 1
                simp only
                rw [Nat.add_mul]
                omega
              · obtain ⟨u2, u3, u4, u5⟩ := r3 ho
                have u6 : (o + c) * d.size ≤ c' * d.size := Nat.mul_le_mul_right _ hoc
                rw [Nat.add_mul] at u6
                exact ⟨u2, u3, by omega, by simp only; omega⟩
          have hbel : (Ck.row true (k || k2) e' d.size (n + m) c (appF n (fun i => fr (o + i)) o2 g)).bel s.h.length := by
            rw [hg] at hw
            intro i hi' v hv
            rw [hap i hi'] at hv
            exact hw (o + i) (by omega) v hv
          have hrel := hr.retake hg hlen hno hsame hA hck hbel (by omega)
          refine Val.mk_c (c := .sl s.h.length 0 d.size 0 (n + m) c) ?_ (hJ (by omega)) (by simp [C.bel, hlen]) hrel (bind_agree _ _ _) (by simp <;> omega)
          have e2 : (C.sl s.h.length 0 d.size 0 (n + m) c).ren (bind β s.h.length (shiftA (β f x) (o * d.size))) = .slice (adr β f x d.size o) n c := by
            rw [sl_adr, shift_adr, hm]
            rfl
          have e3 : (C.sl f x d.size o n c).ren β = .slice (adr β f x d.size o) n c := sl_adr ..
          rw [e2, e3]
          exact nothing2 (adr β f x d.size o) n c hnc1 hm
        · by_cases hroom : n + m ≤ c
          · obtain ⟨h1, hI, hlen, hno, hsame⟩ := updK_of (hH c)
            obtain ⟨w', hrun, hrel⟩ := room_off (P := P) (ty := ty) hr hu hi hs.symm hpos hg hon hoc (hfl2 hm) hc2 hw2 hom hroom (by omega) hlen hno hsame (c2 := c2)
            have hJ := addK_of hI
            rw [hlen] at hJ
            exact Val.mk_c hrun (hJ (cap_new hrel)) (by simp [C.bel, hlen]) hrel (bind_agree _ _ _) (by simp <;> omega)
          · rw [hg] at hc hw
            by_cases hc0 : (β f x).2.2 = .nil
            · have hz0 : c' = 0 := hc.2.1 (by rw [hc0]; simp)
              have hn0 : n = 0 := by omega
              have hcz : c = 0 := by omega
              have ho0 : o = 0 := by omega
              subst hn0 hcz ho0
              have hgen : ∀ {h1 : List Fam}, h1.length = s.h.length → (∀ g y, get h1 g y = .no ∨ get h1 g y = get s.h g y) → _ := fun {h1} hlen hsub' => append_nil_of (P := P) (ty := ty) hr hu hi hzero hs.symm hzs hpos hby.symm (hfl2 hm) hc2 hw2 hom hm (by omega) (by simpa using hmb) (c2 := c2) hlen hsub' (kk := k || k2) (fun h => (Bool.or_eq_false_iff.1 h).2) (G := appF 0 (fun i => fr (0 + i)) o2 g) (fun i hi' => by simp [appF])
              obtain ⟨h1, hI1, hlen, hno, hsame⟩ := updK_of (hH 0)
              obtain ⟨cap, w', hrun, hrel⟩ := hgen hlen (hsub h1 hsame hno)
              obtain ⟨h2, hI, hlen2, hno2, hsame2⟩ := updK_of (hH cap)
              obtain ⟨cap', w'', hrun', hrel'⟩ := hgen hlen2 (hsub h2 hsame2 hno2)
              rw [hrun] at hrun'
              simp only [sl_new, Result.ok.injEq, Value.slice.injEq, true_and] at hrun'
              obtain ⟨rfl, rfl⟩ := hrun'
              have hJ := addK_of hI
              rw [hlen2] at hJ
              have hv0 : (C.sl f x d.size 0 0 0).ren β = C.nils.ren β := by rw [sl_adr]; unfold adr; rw [hc0]; rfl
              rw [← hv0] at hrun
              refine Val.mk_c (c := .sl s.h.length 0 d.size 0 (0 + m) cap) (β' := bind β s.h.length (w.heap.size, 0, .live)) (w' := w') ?_ (hJ (by have := cap_new hrel'; omega)) (by simp [C.bel, hlen2]) ?_ (bind_agree _ _ _) (by simp <;> omega)
              · rw [Nat.zero_add]; exact hrun
              · rw [Nat.zero_add]; exact hrel'
            · have hc0 : (β f x).2.2 ≠ .nil := hc0
              have hgen : ∀ {h1 : List Fam}, h1.length = s.h.length → (∀ g y, get h1 g y = .no ∨ get h1 g y = get s.h g y) → _ := fun {h1} hlen hsub' => grow_case (P := P) (ty := ty) (o := o) hr hu hi hzero hs.symm hzs hpos hc0 hc hw hon hby.symm (hfl2 hm) hc2 hw2 hom (c := c) (c2 := c2) (by omega) hml hmb hlen hsub'
              obtain ⟨h1, hI1, hlen, hno, hsame⟩ := updK_of (hH 0)
              obtain ⟨cap, w', hrun, hrel⟩ := hgen hlen (hsub h1 hsame hno)
              obtain ⟨h2, hI, hlen2, hno2, hsame2⟩ := updK_of (hH cap)
              obtain ⟨cap', w'', hrun', hrel'⟩ := hgen hlen2 (hsub h2 hsame2 hno2)
              rw [hrun] at hrun'
              simp only [sl_new, Result.ok.injEq, Value.slice.injEq, true_and] at hrun'
              obtain ⟨rfl, rfl⟩ := hrun'
              have hJ := addK_of hI
              rw [hlen2] at hJ
              exact Val.mk_c hrun (hJ (cap_new hrel')) (by simp [C.bel, hlen2]) hrel' (bind_agree _ _ _) (by simp <;> omega)
    | _ => exact hE.elim
  | _ => exact hB.elim
end Go.X
set_option linter.constructorNameAsVariable false
set_option linter.unusedVariables false
set_option linter.unusedSimpArgs false
namespace Go.X
variable {cx : Cx} {β : Nm} {s : S} {a : Act} {w : World} {P : Program} {tb : Tb}
def KindOk (u : TypeDesc) (key : Key) : Prop :=
  match key with
  | .i _ => u = .int .i64
  | .s _ => u = .string
theorem Key.ren_inj {a b : Key} (h : a.ren = b.ren) : a = b := by
  cases a <;> cases b <;> simp [Key.ren] at h <;> rw [h]
theorem keyOf_of {sh : Sh} {c : C} {K : Key → Prop} (h : keyOfK sh c K) {u : TypeDesc} (hu : sh = shOf P u) : ∃ key : Key, c.ren β = key.ren ∧ KindOk u key ∧ K key := by
  unfold keyOfK at h
  split at h
  · rename_i k n
    split at h
    · rename_i k'
      obtain ⟨rfl, h1⟩ := sameK_of h
      obtain ⟨rfl, h2⟩ := sameK_of h1
      exact ⟨.i n, rfl, shOf_int hu.symm, h2⟩
    · exact h.elim
  · split at h
    · exact ⟨.s _, rfl, shOf_str hu.symm, h⟩
    · exact h.elim
  · exact h.elim
theorem ba_beq (b c : ByteArray) : (b == c) = decide (b = c) := by
  have h : (b == c) = (b.data == c.data) := rfl
  rw [h]
  by_cases hbc : b = c
  · subst hbc; simp
  · have : b.data ≠ c.data := fun e => hbc (by cases b; cases c; simp_all)
    simp [hbc, this]
theorem sameNow_of {u : TypeDesc} {key k' : Key} (hk : KindOk u key) (hs : k'.sk key = true) : Instr.sameNow u key.ren k'.ren = some (decide (key = k')) := by
  cases key with
  | i n =>
    have : u = .int .i64 := hk
    subst this
    cases k' with
    | i m =>
      simp only [Instr.sameNow, Key.ren, if_true]
      by_cases h : n = m <;> simp [h]
    | s b => cases hs
  | s b =>
    have : u = .string := hk
    subst this
    cases k' with
    | i m => cases hs
    | s c =>
      simp only [Instr.sameNow, Key.ren]
      congr 1
      exact (ba_beq b c).trans (decide_eq_decide.2 ⟨fun h => by rw [h], fun h => by cases h; rfl⟩)
theorem findNow_of {u : TypeDesc} {key : Key} (hk : KindOk u key) : ∀ (l : List MapEntry) (i0 : Nat), (∀ e ∈ l, ∃ k' : Key, e.key = k'.ren ∧ k'.sk key = true) →
    (∃ (j : Nat) (e : MapEntry), l[j]? = some e ∧ e.key = key.ren ∧ Instr.findNow u key.ren l i0 = some (some (i0 + j, e.val))) ∨ ((∀ e ∈ l, e.key ≠ key.ren) ∧ Instr.findNow u key.ren l i0 = some none)
  | [], i0, _ => .inr ⟨by simp, rfl⟩
  | e :: l, i0, h => by
    obtain ⟨k', he, hs⟩ := h e (by simp)
    unfold Instr.findNow
    rw [he, sameNow_of hk hs]
    by_cases hkk : key = k'
    · left
      refine ⟨0, e, rfl, by rw [he, hkk], ?_⟩
      simp [hkk]
    · rw [decide_eq_false hkk]
      rcases findNow_of hk l (i0 + 1) (fun e' h' => h e' (by simp [h'])) with ⟨j, e', h1, h2, h3⟩ | ⟨h1, h2⟩
      · left
        refine ⟨j + 1, e', by simpa using h1, h2, ?_⟩
        simp only [h3]
        congr 3; omega
      · right
        refine ⟨fun e' h' => ?_, h2⟩
        rcases List.mem_cons.1 h' with rfl | h'
        · rw [he]; exact fun h => hkk (Key.ren_inj h).symm
        · exact h1 e' h'
def Ents (β : Nm) (es : Array MapEntry) (n : Nat) (g : Nat → Nat × Key × E) : Prop := es.size = n ∧ ∀ i, i < n → es[i]? = some ⟨(g i).2.1.ren, (g i).2.2.ren β, (g i).1⟩
theorem findKey_of {kt : TypeId} {u : TypeDesc} (hu : P.underlying kt = some u) {key : Key} (hk : KindOk u key) {es : Array MapEntry} {n : Nat} {g : Nat → Nat × Key × E} (he : Ents β es n g) (hs : ∀ i, i < n → (g i).2.1.sk key = true) :
    (∃ i, i < n ∧ (g i).2.1 = key ∧ ∀ w, (Instr.findKey kt key.ren es.toList).run P w = .ok (some (i, (g i).2.2.ren β)) w) ∨ ((∀ i, i < n → (g i).2.1 ≠ key) ∧ ∀ w, (Instr.findKey kt key.ren es.toList).run P w = .ok none w) := by
  obtain ⟨hn, hg⟩ := he
  have hget : ∀ (i : Nat) (e : MapEntry), es.toList[i]? = some e → i < n ∧ e = ⟨(g i).2.1.ren, (g i).2.2.ren β, (g i).1⟩ := by
    intro i e h
    rw [Array.getElem?_toList] at h
    have hi : i < n := by have := (Array.getElem?_eq_some_iff.1 h).1; omega
    rw [hg i hi] at h
    cases h
    exact ⟨hi, rfl⟩
  have hkeys : ∀ e ∈ es.toList, ∃ k' : Key, e.key = k'.ren ∧ k'.sk key = true := by
    intro e h
    obtain ⟨i, h⟩ := List.getElem?_of_mem h
    obtain ⟨hi, rfl⟩ := hget i e h
    exact ⟨_, rfl, hs i hi⟩
  rcases findNow_of hk es.toList 0 hkeys with ⟨j, e, h1, h2, h3⟩ | ⟨h1, h2⟩
  · obtain ⟨hj, rfl⟩ := hget j e h1
    left
    refine ⟨j, hj, Key.ren_inj h2, fun w => ?_⟩
    rw [Nat.zero_add] at h3
    simp only [Instr.findKey, Sem.run_bind, run_underlying hu, Result.andThen_ok, h3, Sem.run_pure]
  · right
    refine ⟨fun i hi h => h1 _ (List.mem_of_getElem? (i := i) (by rw [Array.getElem?_toList]; exact hg i hi)) (by rw [h]), fun w => ?_⟩
    simp only [Instr.findKey, Sem.run_bind, run_underlying hu, Result.andThen_ok, h2, Sem.run_pure]
theorem checkKey_of1 {kt : TypeId} {u : TypeDesc} (hu : P.underlying kt = some u) {key : Key} (hk : KindOk u key) (em : Bool) (w : World) (n : Nat) : (Instr.checkKey em (n + 1) kt key.ren).run P w = .ok () w := by
  cases key with
  | i m =>
    have : u = .int .i64 := hk
    subst this
    simp only [Instr.checkKey, Sem.run_bind, run_underlying hu, Result.andThen_ok, Key.ren]
    rfl
  | s b =>
    have : u = .string := hk
    subst this
    simp only [Instr.checkKey, Sem.run_bind, run_underlying hu, Result.andThen_ok, Key.ren]
    rfl
theorem checkKey_of {kt : TypeId} {u : TypeDesc} (hu : P.underlying kt = some u) {key : Key} (hk : KindOk u key) (em : Bool) (w : World) : (Instr.checkKey em 10000 kt key.ren).run P w = .ok () w := checkKey_of1 hu hk em w 9999
theorem zeroE_of {et : TypeId} {d : Td} (hd : Td.of P et = some d) {K : E → Prop} (h : zeroEK d K) : ∃ e : E, (∀ w, (zeroValue et).run P w = .ok (e.ren β) w) ∧ e.flat = true ∧ K e := by
  obtain ⟨hz, h⟩ := ifB_of h
  obtain ⟨i, u, hi, hu, hs, _, hsh, hzz⟩ := Td.of_spec hd
  obtain ⟨z, h1, hl, h2⟩ := hzz hz
  have hshB := Td.zsh hd hz hi h1
  have hrun : ∀ w, (zeroValue et).run P w = .ok z w := fun w => by simp [zeroValue, typeInfo, hi, h1]
  have hfl := zero_flat' hd
  have agg : (∀ cs, z ≠ .agg cs) ∨ z = .agg (renL β d.zero) := by
    cases hzc : z with
    | agg cs => right; have := h2 β; rw [hzc] at this; simp only [Value.cells] at this; rw [this]
    | _ => left; intro cs h; cases h
  have isagg : (zshB z d.sh = true → z = .agg (renL β d.zero)) → ∃ e : E, (∀ w, (zeroValue et).run P w = .ok (e.ren β) w) ∧ e.flat = true ∧ e = .a d.zero := by
    intro hh
    refine ⟨.a d.zero, fun w => by rw [hrun w, hh hshB]; rfl, ?_, rfl⟩
    exact List.all_eq_true.2 (fun v hv => hfl v hv)
  split at h
  · rename_i fl hd'
    obtain ⟨e, q1, q2, q3⟩ := isagg (fun hb => by
      rcases agg with hn | hn
      · rw [hd'] at hb
        cases z <;> first | (cases hb; done) | exact absurd rfl (hn _)
      · exact hn)
    exact ⟨e, q1, q2, by rw [q3]; exact h⟩
  · rename_i n e0 hd'
    obtain ⟨e, q1, q2, q3⟩ := isagg (fun hb => by
      rcases agg with hn | hn
      · rw [hd'] at hb
        cases z <;> first | (cases hb; done) | exact absurd rfl (hn _)
      · exact hn)
    exact ⟨e, q1, q2, by rw [q3]; exact h⟩
  · rename_i hn1 hn2
    split at h
    · exact h.elim
    · rename_i c r hz0
      split at h
      · refine ⟨.c c, fun w => ?_, hfl c (by rw [hz0]; simp), h⟩
        rw [hrun w]
        have hc := h2 β
        rw [hz0] at hc
        have hnagg : ∀ cs, z ≠ .agg cs := by
          intro cs hcs
          rw [hcs] at hshB
          unfold zshB at hshB
          simp only at hshB
          first
            | (cases hshB; done)
            | (split at hshB
               · rename_i hx; exact hn1 _ hx
               · rename_i hx; exact hn2 _ _ hx
               · cases hshB)
        have hzc : z.cells = #[z] := by cases z <;> first | rfl | exact absurd rfl (hnagg _)
        rw [hzc] at hc
        have : z = c.ren β := by simpa [renL] using hc
        rw [this]; rfl
      · exact h.elim
theorem retE_of {ok : Bool} {e : E} {r : C} {b : Bool} (hr : r.ren β = .bool b) {K : T → Prop} (h : retE ok e r K) : ∃ v : T, (if ok then Value.tuple #[e.ren β, .bool b] else e.ren β) = v.ren β ∧ (∀ n, e.bel n → r.bel n → v.bel n) ∧ K v := by
  cases ok with
  | true => exact ⟨.t [e, .c r], by simp [T.ren, E.ren, hr], fun n h1 h2 q hq => by
      rcases List.mem_cons.1 hq with rfl | hq
      · exact h1
      · rw [List.mem_singleton.1 hq]; exact h2, h⟩
  | false =>
    cases e with
    | c v => exact ⟨.c v, rfl, fun n h1 _ => h1, h⟩
    | a l => exact ⟨.a l, rfl, fun n h1 _ => h1, h⟩
theorem mapSh_of {d : Td} {K : Nat → Nat → Prop} (h : mapShK d K) {u : TypeDesc} (hsh : d.sh = shOf P u) : ∃ k e, u = .map k e ∧ K k e := by
  unfold mapShK at h
  split at h
  · rename_i k e hd
    exact ⟨k, e, shOf_map (hsh.symm.trans hd), h⟩
  · exact h.elim
theorem getObj_map {w : World} {b : Nat} {es : Array MapEntry} {c : Nat} (h : w.heap[b]? = some (.map es c)) : (getObj b).run P w = .ok (.map es c) w := by
  simp [getObj, Sem.run, h]
theorem getObj_iter {w : World} {b : Nat} {m : Option Nat} {c c' : Nat} {sn : Array Nat} (h : w.heap[b]? = some (.mapIter m c sn c')) : (getObj b).run P w = .ok (.mapIter m c sn c') w := by
  simp [getObj, Sem.run, h]
theorem E.bel_of_flat {e : E} (h : e.flat = true) (n : Nat) : e.bel n := by
  have hc : ∀ v : C, v.flat = true → v.bel n := by intro v hv; cases v <;> simp_all [C.flat, C.bel]
  cases e with
  | c v => exact hc v h
  | a l => exact fun v hv => hc v (List.all_eq_true.1 h v hv)
theorem map_bel (hr : Rel cx β s a w) {f x : Nat} {own k : Bool} {c n : Nat} {g : Nat → Nat × Key × E} (hg : get s.h f x = .map own k c n g) {i : Nat} (hi : i < n) : (g i).2.2.bel s.h.length := by
  have hwf := hr.wf.h f x
  rw [hg] at hwf
  have := hwf i hi
  cases k with
  | true => exact this
  | false => exact E.bel_of_flat this _
theorem look_of (hv : Valid tb P) (hr : Rel cx β s a w) {t : Nat} {m kc : C} {ok : Bool} {K : T → List Fam → Prop} (h : lookK tb s t m kc ok fun v => K v s.h) :
    Val P cx β s a w K (do pure (.value (← Instr.lookup t (m.ren β) (kc.ren β) ok))) := by
  obtain ⟨d, hd, h⟩ := td_of hv h
  obtain ⟨i, u, hi, hu, hs, _, hsh, _⟩ := Td.of_spec hd
  obtain ⟨kt, et, rfl, h⟩ := mapSh_of h hsh
  obtain ⟨kd, hkd, h⟩ := td_of hv h
  obtain ⟨i2, u2, hi2, hu2, hs2, _, hsh2, _⟩ := Td.of_spec hkd
  obtain ⟨key, hkey, hkind, h⟩ := keyOf_of (β := β) h hsh2
  obtain ⟨ed, hed, h⟩ := td_of hv h
  have fin : ∀ (e : E) (r : C) (b : Bool), r.ren β = .bool b → r.bel s.h.length → e.bel s.h.length → retE ok e r (fun v => K v s.h) →
      (Instr.lookup t (m.ren β) (kc.ren β) ok).run P w = .ok (if ok then .tuple #[e.ren β, .bool b] else e.ren β) w → Val P cx β s a w K (do pure (.value (← Instr.lookup t (m.ren β) (kc.ren β) ok))) := by
    intro e r b hrb hrbel hebel hret hrun
    obtain ⟨v, hv1, hv2, hv3⟩ := retE_of (β := β) hrb hret
    exact ⟨v, β, s.h, w, andVw (by rw [hrun, hv1]), hv3, hv2 _ hebel hrbel, hr, fun _ _ _ => rfl, Nat.le_refl _⟩
  cases m with
  | nilm =>
    obtain ⟨z, hz1, hz2, hz3⟩ := zeroE_of (β := β) hed h
    refine fin z .ff false rfl trivial (E.bel_of_flat hz2 _) hz3 ?_
    rw [hkey, show C.nilm.ren β = Value.map none from rfl]
    simp only [Instr.lookup, Sem.run_bind, run_underlying hu, Result.andThen_ok, Sem.run_pure]
    rw [checkKey_of hu2 hkind]
    simp only [Result.andThen_ok, Instr.findKey, Sem.run_bind, run_underlying hu2, Instr.findNow, Sem.run_pure, hz1]
  | mp f x =>
    have h := getK_of h
    have hh := hr.ft.ck f x
    split at h
    · rename_i own k c n g hg
      rw [hg] at hh
      obtain ⟨⟨es, hb, hent⟩, _⟩ := hh
      obtain ⟨hsk, hY, hN⟩ := h
      have base : ∀ (r : Option (Nat × Value)) (q : Value), (Instr.findKey kt key.ren es.toList).run P w = .ok r w →
          (match r with | some p => p.2 = q | none => (zeroValue et).run P w = .ok q w) →
          (Instr.lookup t ((C.mp f x).ren β) (kc.ren β) ok).run P w = .ok (if ok then .tuple #[q, .bool r.isSome] else q) w := by
        intro r q h1 h2
        rw [hkey, show (C.mp f x).ren β = Value.map (some (β f x).1) from rfl]
        simp only [Instr.lookup, Sem.run_bind, run_underlying hu, Result.andThen_ok, getObj_map hb, Sem.run_pure]
        rw [checkKey_of hu2 hkind]
        simp only [Result.andThen_ok, h1]
        cases r with
        | none =>
          simp only at h2
          simp only [Sem.run_bind, h2, Result.andThen_ok, Sem.run_pure]
          rfl
        | some p =>
          simp only at h2
          subst h2
          simp only [Sem.run_bind, Result.andThen_ok, Sem.run_pure]
          rfl
      rcases findKey_of hu2 hkind hent hsk with ⟨j, hj, hjk, hrun⟩ | ⟨hno, hrun⟩
      · exact fin (g j).2.2 .tt true rfl trivial (map_bel hr hg hj) (hY j hj hjk) (base _ _ (hrun w) rfl)
      · obtain ⟨z, hz1, hz2, hz3⟩ := zeroE_of (β := β) hed (hN hno)
        exact fin z .ff false rfl trivial (E.bel_of_flat hz2 _) hz3 (base none (z.ren β) (hrun w) (hz1 w))
    · exact h.elim
  | _ => exact h.elim
open Go.ChangeMaps (setBlock)
theorem setObj_map {w : World} {r : Nat} {es : Array MapEntry} {c : Nat} (hr : w.heap[r]? = some (.map es c)) (o' : Obj) : (setObj r o').run P w = .ok () (setBlock w r o') := by
  simp [setObj, Sem.run, hr, setBlock]
theorem setBlock_at {w : World} {r : Nat} {o o' : Obj} (hr : w.heap[r]? = some o) : (setBlock w r o').heap[r]? = some o' := by
  have hlt := (Array.getElem?_eq_some_iff.1 hr).1
  simp [setBlock, hlt]
theorem setBlock_ne {w : World} {r b : Nat} {o' : Obj} (h : b ≠ r) : (setBlock w r o').heap[b]? = w.heap[b]? := by
  simp [setBlock, Ne.symm h]
theorem setBlock_size (w : World) (r : Nat) (o' : Obj) : (setBlock w r o').heap.size = w.heap.size := by simp [setBlock]
theorem toE_of {v : T} {K : E → Prop} (h : v.toEK K) : ∃ e : E, v.ren β = e.ren β ∧ (∀ n, v.bel n → e.bel n) ∧ K e := by
  cases v with
  | c x => exact ⟨.c x, rfl, fun n h => h, h⟩
  | a l => exact ⟨.a l, rfl, fun n h => h, h⟩
  | t l => exact h.elim
theorem stays_of (key : Key) (w : World) : (Instr.keyThatStays key.ren key.ren).run P w = .ok key.ren w := by
  cases key <;> simp [Instr.keyThatStays, Instr.sameBits, Key.ren, ba_beq]
theorem bel_sel {k : Bool} {e : E} {n : Nat} : (match k with | true => e.bel n | false => e.flat = true) ↔ ((k = true → e.bel n) ∧ (k = false → e.flat = true)) := by
  cases k with
  | true => exact ⟨fun h => ⟨fun _ => h, fun h => by cases h⟩, fun h => h.1 rfl⟩
  | false => exact ⟨fun h => ⟨(fun h => by cases h), fun _ => h⟩, fun h => h.2 rfl⟩
theorem mapSet_of (hv : Valid tb P) (hr : Rel cx β s a w) {t : Nat} {m kc : C} {v : T} (hvb : v.bel s.h.length) {K : List Fam → Prop} (h : mapSetK tb s.h t m kc v K) :
    ∃ h' w', (Instr.mapUpdate t (m.ren β) (kc.ren β) (v.ren β)).run P w = .ok () w' ∧ K h' ∧ Rel cx β ⟨s.t, h'⟩ a w' ∧ h'.length = s.h.length := by
  obtain ⟨d, hd, h⟩ := td_of hv h
  obtain ⟨i, u, hi, hu, hs, _, hsh, _⟩ := Td.of_spec hd
  obtain ⟨kt, et, rfl, h⟩ := mapSh_of h hsh
  obtain ⟨kd, hkd, h⟩ := td_of hv h
  obtain ⟨i2, u2, hi2, hu2, hs2, _, hsh2, _⟩ := Td.of_spec hkd
  obtain ⟨key, hkey, hkind, h⟩ := keyOf_of (β := β) h hsh2
  obtain ⟨e, he, heb, h⟩ := toE_of (β := β) h
  have heb := heb _ hvb
  rw [hkey, he]
  cases m with
  | mp f x =>
    have h := getK_of h
    have hh := hr.ft.ck f x
    have hwf := hr.wf.h f x
    split at h
    · rename_i own k c n g hg
      cases own with
      | false => exact h.elim
      | true =>
      rw [hg] at hh hwf
      obtain ⟨⟨es, hb, hent⟩, hborn, hpair, hflat⟩ := hh
      have hfe : (k = false → e.flat = true) ∧ findK n g key (fun i => updK s.h f x (.map true k c n (fun j => if j = i then ((g i).1, key, e) else g j)) K) (updK s.h f x (.map true k (c + 1) (n + 1) (fun j => if j = n then (c, key, e) else g j)) K) := by
        cases k with
        | true => exact ⟨(fun h => by cases h), h⟩
        | false => exact ⟨fun _ => (ifB_of h).1, (ifB_of h).2⟩
      obtain ⟨hfe, hsk, hY, hN⟩ := hfe
      have base : ∀ r, (Instr.findKey kt key.ren es.toList).run P w = .ok r w → (Instr.mapUpdate t ((C.mp f x).ren β) key.ren (e.ren β)).run P w =
          (match r with
            | some (i, _) => (do
              let key' ← Instr.keyThatStays (((es[i]?).map (fun q : MapEntry => q.key)).getD key.ren) key.ren
              setObj (β f x).1 (.map (es.modify i fun q => { q with key := key', val := e.ren β }) c) : Sem Unit)
            | none => setObj (β f x).1 (.map (es.push { key := key.ren, val := e.ren β, born := c }) (c + 1))).run P w := by
        intro r h1
        rw [show (C.mp f x).ren β = Value.map (some (β f x).1) from rfl]
        simp only [Instr.mapUpdate, Sem.run_bind, run_underlying hu, Result.andThen_ok, getObj_map hb]
        rw [checkKey_of hu2 hkind]
        simp only [Result.andThen_ok, h1]
        cases r <;> rfl
      rcases findKey_of hu2 hkind hent hsk with ⟨j, hj, hjk, hrun⟩ | ⟨hno, hrun⟩
      · obtain ⟨h', hK, hlen, h1, h2⟩ := updK_of (hY j hj hjk)
        refine ⟨h', setBlock w (β f x).1 (.map (es.modify j fun q => { q with key := key.ren, val := e.ren β }) c), ?_, hK, ?_, hlen⟩
        · rw [base _ (hrun w)]
          have hold : ((es[j]?).map (fun q : MapEntry => q.key)).getD key.ren = key.ren := by rw [hent.2 j hj, hjk]; rfl
          simp only [hold, Sem.run_bind, stays_of, Result.andThen_ok]
          exact setObj_map hb _
        · refine hr.write (f := f) (x := x) (by rw [hg]; rfl) rfl hlen h1 h2 ?_ ?_ rfl rfl rfl (setBlock_size _ _ _) (fun b hb' => setBlock_ne hb')
          · refine ⟨⟨_, setBlock_at hb, by simp [hent.1], fun i hi => ?_⟩, fun i hi => ?_, fun i i' hii hi' => ?_, fun hk i hi => ?_⟩ <;> dsimp only
            · rw [Array.getElem?_modify]
              by_cases hij : i = j
              · subst hij
                rw [if_pos rfl, if_pos rfl, hent.2 i hi]
                rfl
              · rw [if_neg (Ne.symm hij), if_neg hij]
                exact hent.2 i hi
            · by_cases hij : i = j
              · subst hij; rw [if_pos rfl]; exact hborn i hi
              · rw [if_neg hij]; exact hborn i hi
            · have hp := hpair i i' hii hi'
              have e1 : ∀ q : Nat, (if q = j then ((g j).1, key, e) else g q).1 = (g q).1 ∧ (if q = j then ((g j).1, key, e) else g q).2.1 = (g q).2.1 := by
                intro q
                by_cases hq : q = j
                · subst hq; rw [if_pos rfl]; exact ⟨rfl, hjk.symm⟩
                · rw [if_neg hq]; exact ⟨rfl, rfl⟩
              rw [(e1 i).1, (e1 i').1, (e1 i).2, (e1 i').2]
              exact hp
            · by_cases hij : i = j
              · rw [if_pos hij]; exact hfe hk
              · rw [if_neg hij]; exact hflat hk i hi
          · intro i hi
            by_cases hij : i = j
            · simp only [if_pos hij]; exact bel_sel.2 ⟨fun _ => heb, hfe⟩
            · simp only [if_neg hij]; exact hwf i hi
      · obtain ⟨h', hK, hlen, h1, h2⟩ := updK_of (hN hno)
        refine ⟨h', setBlock w (β f x).1 (.map (es.push { key := key.ren, val := e.ren β, born := c }) (c + 1)), ?_, hK, ?_, hlen⟩
        · rw [base _ (hrun w)]
          exact setObj_map hb _
        · refine hr.write (f := f) (x := x) (by rw [hg]; rfl) rfl hlen h1 h2 ?_ ?_ rfl rfl rfl (setBlock_size _ _ _) (fun b hb' => setBlock_ne hb')
          · refine ⟨⟨_, setBlock_at hb, by simp [hent.1], fun i hi => ?_⟩, fun i hi => ?_, fun i i' hii hi' => ?_, fun hk i hi => ?_⟩ <;> dsimp only
            · rw [Array.getElem?_push, hent.1]
              by_cases hij : i = n
              · subst hij; rw [if_pos rfl, if_pos rfl]
              · rw [if_neg hij, if_neg hij]; exact hent.2 i (by omega)
            · by_cases hij : i = n
              · subst hij; rw [if_pos rfl]; exact Nat.lt_succ_self _
              · rw [if_neg hij]; have := hborn i (by omega); omega
            · by_cases hij : i' = n
              · rw [if_neg (show ¬ i = n by omega), if_pos hij]
                exact ⟨hborn i (by omega), hno i (by omega)⟩
              · rw [if_neg (show ¬ i = n by omega), if_neg hij]
                exact hpair i i' hii (by omega)
            · by_cases hij : i = n
              · rw [if_pos hij]; exact hfe hk
              · rw [if_neg hij]; exact hflat hk i (by omega)
          · intro i hi
            by_cases hij : i = n
            · simp only [if_pos hij]; exact bel_sel.2 ⟨fun _ => heb, hfe⟩
            · simp only [if_neg hij]; exact hwf i (by omega)
    · exact h.elim
  | _ => exact h.elim
theorem setBlock_same {w : World} {r : Nat} {o : Obj} (hr : w.heap[r]? = some o) : setBlock w r o = w := by
  have : w.heap.setIfInBounds r o = w.heap := by
    apply Array.ext_getElem?
    intro i
    rw [Array.getElem?_setIfInBounds]
    by_cases h : r = i
    · subst h
      rw [if_pos rfl, if_pos (Array.getElem?_eq_some_iff.1 hr).1, hr]
    · rw [if_neg h]
  unfold setBlock
  rw [this]
theorem mapDel_of (hv : Valid tb P) (hr : Rel cx β s a w) {t : Nat} {ts : List Nat} {ty : Nat} {m kc : C} {K : T → List Fam → Prop} (h : mapDelK tb s.h t m kc K) :
    Val P cx β s a w K (do pure (.value (← Builtin.delete_ (t :: ts).toArray ty #[m.ren β, kc.ren β]))) := by
  obtain ⟨d, hd, h⟩ := td_of hv h
  obtain ⟨i, u, hi, hu, hs, _, hsh, _⟩ := Td.of_spec hd
  obtain ⟨kt, et, rfl, h⟩ := mapSh_of h hsh
  obtain ⟨kd, hkd, h⟩ := td_of hv h
  obtain ⟨i2, u2, hi2, hu2, hs2, _, hsh2, _⟩ := Td.of_spec hkd
  obtain ⟨key, hkey, hkind, h⟩ := keyOf_of (β := β) h hsh2
  rw [hkey]
  cases m with
  | nilm =>
    refine ⟨.t [], β, s.h, w, andVw (?_ : Sem.run P (Builtin.delete_ (t :: ts).toArray ty #[C.nilm.ren β, key.ren]) w = .ok (.tuple #[]) w), h, by simp [T.bel], hr, fun _ _ _ => rfl, Nat.le_refl _⟩
    rw [show C.nilm.ren β = Value.map none from rfl]
    simp only [Builtin.delete_, List.getElem?_toArray, List.getElem?_cons_zero, Sem.run_bind, run_underlying hu, Result.andThen_ok]
    simp only [List.size_toArray, List.length_cons, List.length_nil, List.getElem?_toArray, List.getElem?_cons_zero, List.getElem?_cons_succ, Sem.run_bind, run_underlying hu, Result.andThen_ok]
    rw [checkKey_of hu2 hkind]
    rfl
  | mp f x =>
    have h := getK_of h
    have hh := hr.ft.ck f x
    have hwf := hr.wf.h f x
    split at h
    · rename_i own k c n g hg
      cases own with
      | false => exact h.elim
      | true =>
      rw [hg] at hh hwf
      obtain ⟨⟨es, hb, hent⟩, hborn, hpair, hflat⟩ := hh
      obtain ⟨hsk, hY, hN⟩ := h
      have base : ∀ r, (Instr.findKey kt key.ren es.toList).run P w = .ok r w → (Builtin.delete_ (t :: ts).toArray ty #[(C.mp f x).ren β, key.ren]).run P w =
          .ok (.tuple #[]) (setBlock w (β f x).1 (match r with | some (i, _) => .map (es.eraseIdxIfInBounds i) c | none => .map es c)) := by
        intro r h1
        rw [show (C.mp f x).ren β = Value.map (some (β f x).1) from rfl]
        simp only [Builtin.delete_, List.getElem?_toArray, List.getElem?_cons_zero, Sem.run_bind, run_underlying hu, Result.andThen_ok]
        simp only [List.size_toArray, List.length_cons, List.length_nil, List.getElem?_toArray, List.getElem?_cons_zero, List.getElem?_cons_succ, Sem.run_bind, run_underlying hu, Result.andThen_ok, getObj_map hb]
        rw [checkKey_of hu2 hkind]
        simp only [Result.andThen_ok, h1]
        cases r with
        | none => simp only [Sem.run_bind, setObj_map hb, Result.andThen_ok, Sem.run_pure]
        | some p => simp only [Sem.run_bind, setObj_map hb, Result.andThen_ok, Sem.run_pure]
      rcases findKey_of hu2 hkind hent hsk with ⟨j, hj, hjk, hrun⟩ | ⟨hno, hrun⟩
      · obtain ⟨h', hK, hlen, h1, h2⟩ := updK_of (hY j hj hjk)
        refine ⟨.t [], β, h', _, andVw (by exact base _ (hrun w)), hK, by simp [T.bel], ?_, fun _ _ _ => rfl, by omega⟩
        have hel : ∀ i, i < n - 1 → (es.eraseIdxIfInBounds j)[i]? = if i < j then es[i]? else es[i + 1]? := by
          intro i hi
          rw [← Array.getElem?_toList, Array.toList_eraseIdxIfInBounds, List.getElem?_eraseIdx]
          split <;> rw [Array.getElem?_toList]
        refine hr.write (f := f) (x := x) (by rw [hg]; rfl) rfl hlen h1 h2 ?_ ?_ rfl rfl rfl (setBlock_size _ _ _) (fun b hb' => setBlock_ne hb')
        · refine ⟨⟨_, setBlock_at hb, ?_, fun i hi => ?_⟩, fun i hi => ?_, fun i i' hii hi' => ?_, fun hk i hi => ?_⟩ <;> (try dsimp only)
          · rw [← Array.length_toList, Array.toList_eraseIdxIfInBounds, List.length_eraseIdx_of_lt (by rw [Array.length_toList, hent.1]; exact hj), Array.length_toList, hent.1]
          · rw [hel i hi]
            by_cases hij : i < j
            · rw [if_pos hij, if_pos hij]; exact hent.2 i (by omega)
            · rw [if_neg hij, if_neg hij]; exact hent.2 (i + 1) (by omega)
          · by_cases hij : i < j
            · rw [if_pos hij]; exact hborn i (by omega)
            · rw [if_neg hij]; exact hborn (i + 1) (by omega)
          · by_cases h1 : i < j <;> by_cases h2 : i' < j
            · rw [if_pos h1, if_pos h2]; exact hpair i i' hii (by omega)
            · rw [if_pos h1, if_neg h2]; exact hpair i (i' + 1) (by omega) (by omega)
            · omega
            · rw [if_neg h1, if_neg h2]; exact hpair (i + 1) (i' + 1) (by omega) (by omega)
          · by_cases hij : i < j
            · rw [if_pos hij]; exact hflat hk i (by omega)
            · rw [if_neg hij]; exact hflat hk (i + 1) (by omega)
        · intro i hi
          by_cases hij : i < j
          · simp only [if_pos hij]; exact hwf i (by omega)
          · simp only [if_neg hij]; exact hwf (i + 1) (by omega)
      · refine ⟨.t [], β, s.h, w, andVw ?_, hN hno, by simp [T.bel], hr, fun _ _ _ => rfl, Nat.le_refl _⟩
        have := base _ (hrun w)
        rw [setBlock_same hb] at this
        exact this
    · exact h.elim
  | _ => exact h.elim
theorem range_of (hv : Valid tb P) (hr : Rel cx β s a w) {t : Nat} {m : C} {K : T → List Fam → Prop} (h : rangeK tb s.h t m K) :
    Val P cx β s a w K (do pure (.value (← Instr.range t (m.ren β)))) := by
  obtain ⟨d, hd, h⟩ := td_of hv h
  obtain ⟨i, u, hi, hu, hs, _, hsh, _⟩ := Td.of_spec hd
  obtain ⟨kt, et, rfl, h⟩ := mapSh_of h hsh
  cases m with
  | mp f x =>
    have h := getK_of h
    have hh := hr.ft.ck f x
    split at h
    · rename_i own k c n g hg
      rw [hg] at hh
      obtain ⟨⟨es, hb, hent⟩, _⟩ := hh
      have h := addK_of h
      have hlt : f < s.h.length := get_lt (by rw [hg]; intro e; cases e)
      refine ⟨_, _, _, _, andVw ?_, h, ?_, hr.alloc (ck := .iter f x c []) (o := .mapIter (some (β f x).1) c #[] c) ⟨rfl, ?_⟩ hlt, bind_agree _ _ _, by simp⟩
      · simp only [T.ren]
        rw [p_new]
        rw [show (C.mp f x).ren β = Value.map (some (β f x).1) from rfl]
        have hnew : (newObj (.mapIter (some (β f x).1) c #[] c)).run P w = .ok w.heap.size (w.alloc (.mapIter (some (β f x).1) c #[] c)) := by simp [newObj, Sem.run]
        simp only [Instr.range, Sem.run_bind, run_underlying hu, Result.andThen_ok, getObj_map hb, Sem.run_pure, hnew]
      · simp [T.bel, C.bel]
      · exact heap_alloc_new w _
    · exact h.elim
  | _ => exact h.elim
theorem makeMap_of (hv : Valid tb P) (hr : Rel cx β s a w) {t : Nat} {r : Option C} {K : T → List Fam → Prop} (h : makeMapK tb s.h t r K) :
    Val P cx β s a w K (do pure (.value (← Instr.makeMap t (r.map (C.ren β))))) := by
  obtain ⟨d, hd, h⟩ := td_of hv h
  obtain ⟨i, u, hi, hu, hs, _, hsh, _⟩ := Td.of_spec hd
  obtain ⟨kt, et, rfl, h⟩ := mapSh_of h hsh
  obtain ⟨ed, hed, h⟩ := td_of hv h
  have main : addK s.h (.map true (!flatShB tb ed.sh) 0 0 (fun _ => (0, .i 0, .c .nilp))) (fun n h' => K (.c (.mp n 0)) h') →
      (Instr.makeMap t (r.map (C.ren β))).run P w = .ok (.map (some w.heap.size)) (w.alloc (.map #[] 0)) → Val P cx β s a w K (do pure (.value (← Instr.makeMap t (r.map (C.ren β))))) := by
    intro h hrun
    have h := addK_of h
    refine ⟨_, _, _, _, andVw ?_, h, ?_, hr.alloc (ck := .map true (!flatShB tb ed.sh) 0 0 (fun _ => (0, .i 0, .c .nilp))) (o := .map #[] 0) ⟨⟨#[], heap_alloc_new w _, rfl, fun i hi => by omega⟩, fun i hi => by omega, fun i j _ hj => by omega, fun _ i hi => by omega⟩ (fun i hi => by omega), bind_agree _ _ _, by simp⟩
    · rw [hrun]
      simp [T.ren, C.ren, bind_new]
    · simp [T.bel, C.bel]
  cases r with
  | none =>
    refine main h ?_
    simp [Instr.makeMap, newObj, Sem.run]
  | some c =>
    cases c with
    | i k n =>
      refine main h ?_
      simp [Instr.makeMap, newObj, Sem.run, run_underlying hu, C.ren, asInt, asIntOf]
    | _ => exact h.elim
theorem Rel.drew' (hr : Rel cx β s a w) : Rel cx β s a w.drew := by
  refine ⟨hr.dfr, hr.sz, hr.tm, ⟨fun f x => Ck.holds_block (hr.ft.ck f x) rfl, hr.ft.sep⟩, hr.wf, hr.ml, hr.pin, hr.os, hr.tape, hr.out, hr.hs, hr.fr, hr.ow, hr.kn⟩
theorem next_of (hr : Rel cx β s a w) {it : C} {ty : TypeId} {K : T → List Fam → Prop} (h : nextK s.h it K) :
    Val P cx β s a w K (do pure (.value (← Instr.next (it.ren β) false ty))) := by
  cases it with
  | p f x o =>
    cases o with
    | succ o => exact h.elim
    | zero =>
    have h := getK_of h
    have hh := hr.ft.ck f x
    have hwf := hr.wf.h f x
    split at h
    · rename_i m y c seen hg
      rw [hg] at hh hwf
      obtain ⟨ho, hb⟩ := hh
      have h := getK_of h
      have hm := hr.ft.ck m y
      split at h
      · rename_i own k c' n g hg2
        obtain ⟨hcc, hY, hN⟩ := h
        subst hcc
        rw [hg2] at hm
        obtain ⟨⟨es, hbm, hent⟩, hborn, hpair, hflat⟩ := hm
        have hget : ∀ e ∈ es.toList, ∃ i, i < n ∧ e = ⟨(g i).2.1.ren, (g i).2.2.ren β, (g i).1⟩ := by
          intro e he
          obtain ⟨i, hi⟩ := List.getElem?_of_mem he
          rw [Array.getElem?_toList] at hi
          have hin : i < n := by have := (Array.getElem?_eq_some_iff.1 hi).1; have := hent.1; omega
          rw [hent.2 i hin] at hi
          cases hi
          exact ⟨i, hin, rfl⟩
        have hit : (C.p f x 0).ren β = .pointer (some ⟨(β f x).1, 0, none⟩) := by
          simp [C.ren, place, ho]
        rw [hit]
        have hleft : ∀ e, e ∈ (leftOf es seen.toArray).toList → ∃ i, i < n ∧ e = ⟨(g i).2.1.ren, (g i).2.2.ren β, (g i).1⟩ ∧ (g i).1 ∉ seen := by
          intro e he
          unfold leftOf at he
          rw [Array.toList_filter, List.mem_filter] at he
          obtain ⟨i, hi, rfl⟩ := hget e he.1
          exact ⟨i, hi, rfl, by simpa using he.2⟩
        rcases run_next_at (P := P) w ty (β f x).1 (β m y).1 c' c' seen.toArray es c' hb hbm (fun e he => by obtain ⟨i, hi, rfl⟩ := hget e he; exact hborn i hi) (Nat.le_refl _) with ⟨h0, hrun⟩ | ⟨e, he, w1, hw1, hrun⟩
        · refine ⟨.t [.c .ff], β, s.h, w, andVw hrun, hN (fun i hi => ?_), (by intro q hq; rw [List.mem_singleton.1 hq]; trivial), hr, fun _ _ _ => rfl, Nat.le_refl _⟩
          by_cases hin : (g i).1 ∈ seen
          · exact hin
          · exfalso
            have hmem : (⟨(g i).2.1.ren, (g i).2.2.ren β, (g i).1⟩ : MapEntry) ∈ (leftOf es seen.toArray).toList := by
              unfold leftOf
              rw [Array.toList_filter, List.mem_filter]
              exact ⟨List.mem_of_getElem? (i := i) (by rw [Array.getElem?_toList]; exact hent.2 i hi), by simpa using hin⟩
            have := List.length_pos_of_mem hmem
            rw [Array.length_toList] at this
            omega
        · obtain ⟨i, hi, rfl, hin⟩ := hleft e he
          obtain ⟨h', hK, hlen, h1, h2⟩ := updK_of (hY i hi hin)
          have hr1 : Rel cx β s a w1 := by rcases hw1 with rfl | rfl; exact hr; exact hr.drew'
          have hb1 : w1.heap[(β f x).1]? = some (.mapIter (some (β m y).1) c' seen.toArray c') := by rcases hw1 with rfl | rfl <;> exact hb
          refine ⟨.t [.c .tt, .c (g i).2.1.c, (g i).2.2], β, h', setBlock w1 (β f x).1 (.mapIter (some (β m y).1) c' (seen.toArray.push (g i).1) c'), andVw ?_, hK, ?_, ?_, fun _ _ _ => rfl, by omega⟩
          rotate_left
          · have hkb : (g i).2.1.c.bel h'.length := by cases (g i).2.1 <;> trivial
            have hvb := map_bel hr hg2 hi
            rw [hlen]
            rw [hlen] at hkb
            intro q hq
            rcases List.mem_cons.1 hq with rfl | hq
            · trivial
            · rcases List.mem_cons.1 hq with rfl | hq
              · exact hkb
              · rw [List.mem_singleton.1 hq]; exact hvb
          rotate_left
          · rw [hrun]
            have hkc : (g i).2.1.c.ren β = (g i).2.1.ren := by cases (g i).2.1 <;> rfl
            have e2 : (T.t [.c .tt, .c (g i).2.1.c, (g i).2.2]).ren β = .tuple #[.bool true, (g i).2.1.ren, (g i).2.2.ren β] := by
              simp only [T.ren, List.map_cons, List.map_nil, E.ren, hkc]
              rfl
            rw [e2]
          · refine hr1.write (f := f) (x := x) (by rw [hg]; rfl) rfl hlen h1 h2 ⟨ho, ?_⟩ hwf rfl rfl rfl (setBlock_size _ _ _) (fun b hb' => setBlock_ne hb')
            rw [setBlock_at hb1]
            simp
      · exact h.elim
    · exact h.elim
  | _ => exact h.elim
theorem entry_of (hr : Rel cx β s a w) {it : C} {K : T → List Fam → Prop} (h : entryK s.h it K) :
    Val P cx β s a w K (do pure (.value (← Instr.entry (it.ren β)))) := by
  cases it with
  | p f x o =>
    cases o with
    | succ o => exact h.elim
    | zero =>
    have h := getK_of h
    have hh := hr.ft.ck f x
    split at h
    · rename_i m y c seen hg
      rw [hg] at hh
      obtain ⟨ho, hb⟩ := hh
      have h := getK_of h
      have hm := hr.ft.ck m y
      split at h
      · rename_i own k c' n g hg2
        obtain ⟨hcc, i, hi, hl, hK⟩ := h
        subst hcc
        have hm2 := hm
        rw [hg2] at hm
        obtain ⟨⟨es, hbm, hent⟩, hborn, hpair, hflat⟩ := hm
        have hit : (C.p f x 0).ren β = .pointer (some ⟨(β f x).1, 0, none⟩) := by
          simp [C.ren, place, ho]
        rw [hit]
        have hback : seen.toArray.back? = some (g i).1 := by
          rw [Array.back?_eq_getElem?, List.getElem?_toArray, List.size_toArray, ← List.getLast?_eq_getElem?]
          exact hl
        have hfind : es.find? (fun e => e.born == (g i).1) = some ⟨(g i).2.1.ren, (g i).2.2.ren β, (g i).1⟩ := by
          rw [Array.find?_eq_some_iff_getElem]
          have hes : i < es.size := by rw [hent.1]; exact hi
          have hat : es[i] = ⟨(g i).2.1.ren, (g i).2.2.ren β, (g i).1⟩ := by
            have := hent.2 i hi
            rw [Array.getElem?_eq_getElem hes] at this
            exact Option.some.inj this
          refine ⟨by simp, i, hes, hat, fun j hj => ?_⟩
          have hjn : j < n := by omega
          have hjs : j < es.size := by omega
          have hatj : es[j] = ⟨(g j).2.1.ren, (g j).2.2.ren β, (g j).1⟩ := by
            have := hent.2 j hjn
            rw [Array.getElem?_eq_getElem hjs] at this
            exact Option.some.inj this
          rw [hatj]
          have := (hpair j i hj hi).1
          simp
          omega
        have hrun : (Instr.entry (.pointer (some ⟨(β f x).1, 0, none⟩))).run P w = .ok (.tuple #[(g i).2.1.ren, (g i).2.2.ren β]) w := by
          simp [Instr.entry, getObj, Sem.run, hb, hbm, hback, hfind]
        refine ⟨.t [.c (g i).2.1.c, (g i).2.2], β, s.h, w, andVw ?_, hK, ?_, hr, fun _ _ _ => rfl, Nat.le_refl _⟩
        · rw [hrun]
          have hkc : (g i).2.1.c.ren β = (g i).2.1.ren := by cases (g i).2.1 <;> rfl
          have e2 : (T.t [.c (g i).2.1.c, (g i).2.2]).ren β = .tuple #[(g i).2.1.ren, (g i).2.2.ren β] := by
            simp only [T.ren, List.map_cons, List.map_nil, E.ren, hkc]
          rw [e2]
        · have hkb : (g i).2.1.c.bel s.h.length := by cases (g i).2.1 <;> trivial
          have hvb := map_bel hr hg2 hi
          intro q hq
          rcases List.mem_cons.1 hq with rfl | hq
          · exact hkb
          · rw [List.mem_singleton.1 hq]; exact hvb
      · exact h.elim
    · exact h.elim
  | _ => exact h.elim
end Go.X
set_option linter.constructorNameAsVariable false
set_option linter.unusedVariables false
namespace Go.X
variable {cx : Cx} {β : Nm} {s : S} {a : Act} {w : World} {P : Program} {tb : Tb}
theorem pure_val (hv : Valid tb P) (hr : Rel cx β s a w) {o : Oper} {K : T → List Fam → Prop} (h : xpure tb s o.op fun v => K v s.h) : Val P cx β s a w K (execOp a.eval o) := by
  obtain ⟨v, hrun, hb, hk⟩ := xpure_of hv hr.tm hr.ft (xpure_wf (K' := fun v => v.bel s.h.length ∧ K v s.h) hr.wf (fun v hv hk => ⟨hv, hk⟩) h)
  exact ⟨v, β, s.h, w, hrun w (fun f x _ => hr.ft.ck f x), hk, hb, hr, fun _ _ _ => rfl, Nat.le_refl _⟩
theorem reps_get' {n z : Nat} {l : List C} (hz : l.length = z) {i j : Nat} (hi : i < n) (hj : j < z) : (reps n l)[i * z + j]? = l[j]? := by
  subst hz
  have h1 : (i + 1) * l.length ≤ n * l.length := Nat.mul_le_mul_right _ hi
  rw [Nat.add_mul] at h1
  rw [reps_get (by omega) _ (by omega), Nat.mul_comm, Nat.mul_add_mod, Nat.mod_eq_of_lt hj]
theorem clear_of (hv : Valid tb P) (hr : Rel cx β s a w) {t ty e : Nat} (hu : P.underlying t = some (.slice e)) {d : Td} (hd : Td.of P e = some d) {v : C} {K : T → List Fam → Prop} (h : clearK d s.h v K) :
    Val P cx β s a w K (do pure (.value (← Builtin.clear_ #[t] ty #[v.ren β]))) := by
  obtain ⟨hz, hA⟩ := ifB_of h
  obtain ⟨z, hz1, hz2, hzl, i, hi, hzero⟩ := zero_of (β := β) (w := w) hd hz
  cases v with
  | nils =>
    refine ⟨.t [], β, _, w, andVw (?_ : Sem.run P (Builtin.clear_ #[t] ty #[C.nils.ren β]) w = .ok (.tuple #[]) w), hA, by simp [T.bel], hr, fun _ _ _ => rfl, Nat.le_refl _⟩
    simp [Builtin.clear_, run_underlying hu, C.ren]
  | sl f x z' o n c =>
    have hB := getK_of hA
    have hc := hr.ft.ck f x
    have hwf := hr.wf.h f x
    split at hB
    case h_2 => exact hB.elim
    rename_i k e' zz n' c' fr hg
    rw [hg] at hc hwf
    obtain ⟨⟨hz3, hz4, hon⟩, hU⟩ := hB
    subst hz3 hz4
    obtain ⟨h1, hK, hlen, hnew, hsame⟩ := updK_of hU
    obtain ⟨hnc, hnil, hkf, hlz, hblk⟩ := hc
    have hlz' : ∀ i, i < n' → (clrF o n d.zero fr i).length = d.size := by
      intro i hi
      unfold clrF
      by_cases hin : o ≤ i ∧ i < o + n
      · rw [if_pos hin]; exact hzl
      · rw [if_neg hin]; exact hlz i hi
    have hflat : k = false → ∀ i, i < n' → ∀ v ∈ clrF o n d.zero fr i, v.flat = true := by
      intro hk i hi v hv
      unfold clrF at hv
      by_cases hin : o ≤ i ∧ i < o + n
      · rw [if_pos hin] at hv; exact zero_flat' hd v hv
      · rw [if_neg hin] at hv; exact hkf hk i hi v hv
    have hbel : (Ck.row true k e' d.size n' c' (clrF o n d.zero fr)).bel s.h.length := by
      intro i hi v hv
      unfold clrF at hv
      by_cases hin : o ≤ i ∧ i < o + n
      · rw [if_pos hin] at hv; exact zero_flat hd _ v hv
      · rw [if_neg hin] at hv; exact hwf i hi v hv
    by_cases hc0 : c' = 0
    ·
      have hn0 : n = 0 := by omega
      have hn0' : n' = 0 := by omega
      have hrel : Rel cx β ⟨s.t, h1⟩ a w := by
        have hag : Agree s.h.length β β := fun _ _ _ => rfl
        have hget : ∀ g y, get h1 g y = get s.h g y ∨ ((g, y) = (f, x) ∧ get h1 g y = .row true k e' d.size n' c' (clrF o n d.zero fr)) := by
          intro g y
          by_cases he : (g, y) = (f, x)
          · exact .inr ⟨he, by cases he; exact hnew⟩
          · exact .inl (hsame g y he)
        have hun : (Ck.row true k e' d.size n' c' (clrF o n d.zero fr)).known = false := by rw [hc0]; rfl
        have huo : (Ck.row true k e' d.size n' c' (clrF o n d.zero fr)).owned = false := by rw [hc0]; rfl
        refine hr.step (by omega) hag ?_ ?_ rfl rfl rfl (Nat.le_refl _) (fun b hb _ => rfl) ?_ ?_
        · refine hr.ft.one f x s.h.length hag ?_ ?_
          · rw [hnew]; exact ⟨hnc, hnil, hflat, hlz', fun h => absurd hc0 h⟩
          · intro g y hne
            right
            refine ⟨hsame g y hne, rfl, hr.wf.h g y, fun hk => ⟨rfl, fun hkn => ?_⟩⟩
            rw [hnew, hun] at hkn; cases hkn
        · intro g y
          rw [hlen]
          rcases hget g y with q | ⟨_, q⟩
          · rw [q]; exact hr.wf.h g y
          · rw [q]; exact hbel
        · intro g y ho
          rcases hget g y with q | ⟨_, q⟩
          · rw [q] at ho; exact .inl ⟨g, y, ho, rfl⟩
          · rw [q, huo] at ho; cases ho
        · intro g y ho
          rcases hget g y with q | ⟨_, q⟩
          · rw [q] at ho; exact .inl ⟨g, y, ho, rfl⟩
          · rw [q, hun] at ho; cases ho
      refine ⟨.t [], β, h1, w, andVw (?_ : Sem.run P (Builtin.clear_ #[t] ty #[(C.sl f x d.size o n c).ren β]) w = .ok (.tuple #[]) w), hK, by simp [T.bel], hrel, fun _ _ _ => rfl, by omega⟩
      rw [sl_adr, hn0]
      cases adr β f x d.size o <;> simp [Builtin.clear_, run_underlying hu]
    · have hfl : (β f x).2.2 = .live := by
        exact Fl.live_of fun hb => by exact absurd (hnil hb) hc0
      obtain ⟨cur, te, fz, hb, hcc, how⟩ := hblk hc0
      obtain ⟨rfl, rfl, hcm, hcs⟩ := how rfl
      have hle : (o + n) * d.size ≤ c' * d.size := Nat.mul_le_mul_right _ (by omega)
      rw [Nat.add_mul] at hle
      have hrl : ((reps n d.zero).map (C.ren β)).length = n * d.size := by rw [List.length_map, reps_len, hzl]
      have hst := run_storeCells_at P (β f x).1 ((β f x).2.1 + o * d.size) te ((reps n d.zero).map (C.ren β)) 0 cur w hb (by rw [hrl]; omega) (by
        intro u hu
        obtain ⟨c, _, rfl⟩ := List.mem_map.1 hu
        exact c.ren_one)
      have hfit : (β f x).2.1 + o * d.size + ((reps n d.zero).map (C.ren β)).length ≤ cur.toList.length := by rw [hrl, Array.length_toList]; omega
      have hrel : Rel cx β ⟨s.t, h1⟩ a (w.setRow (β f x).1 (cur.toList.take ((β f x).2.1 + o * d.size + 0) ++ (reps n d.zero).map (C.ren β) ++ cur.toList.drop ((β f x).2.1 + o * d.size + 0 + ((reps n d.zero).map (C.ren β)).length)).toArray) := by
        refine hr.write (f := f) (x := x) (by rw [hg]; exact row_owned hc0) (row_owned hc0) hlen hnew hsame ⟨hnc, hnil, hflat, hlz', fun _ => ⟨_, te, (0, 0), setRow_heap w _ cur _ te _ hb, fun i hi j v hj => ?_, fun _ => ⟨rfl, rfl, hcm, ?_⟩⟩⟩ hbel rfl rfl rfl (by simp [World.setRow]) (fun b hb' => setRow_other w _ b _ hb')
        · have hjz : j < d.size := by have := (List.getElem?_eq_some_iff.1 hj).1; rw [hlz' i hi] at this; exact this
          simp only [List.getElem?_toArray, Nat.add_zero]
          rw [lay_get hfit, hrl]
          unfold clrF at hj
          by_cases hin : o ≤ i ∧ i < o + n
          · rw [if_pos hin] at hj
            have e3 : i * d.size = o * d.size + (i - o) * d.size := by rw [← Nat.add_mul]; congr 1; omega
            have h5 : ((i - o) + 1) * d.size ≤ n * d.size := Nat.mul_le_mul_right _ (by omega)
            rw [Nat.add_mul] at h5
            rw [if_pos (by omega), show (β f x).2.1 + (i * d.size + j) - ((β f x).2.1 + o * d.size) = (i - o) * d.size + j from by omega, List.getElem?_map, reps_get' hzl (by omega) hjz, hj]
            rfl
          · rw [if_neg hin] at hj
            have : ¬ ((β f x).2.1 + o * d.size ≤ (β f x).2.1 + (i * d.size + j) ∧ (β f x).2.1 + (i * d.size + j) < (β f x).2.1 + o * d.size + n * d.size) := by
              by_cases h1 : i < o
              · have h5 : (i + 1) * d.size ≤ o * d.size := Nat.mul_le_mul_right _ h1
                rw [Nat.add_mul] at h5
                omega
              · have h5 : (o + n) * d.size ≤ i * d.size := Nat.mul_le_mul_right _ (by omega)
                rw [Nat.add_mul] at h5
                omega
            rw [if_neg this, Array.getElem?_toList]
            have := hcc i hi j v hj
            exact this
        · simp only [List.size_toArray, List.length_append, List.length_take, List.length_drop, Array.length_toList, Nat.add_zero] at hfit ⊢
          omega
      refine ⟨.t [], β, h1, _, andVw (?_ : Sem.run P (Builtin.clear_ #[t] ty #[(C.sl f x d.size o n c).ren β]) w = .ok (.tuple #[]) _), hK, by simp [T.bel], hrel, fun _ _ _ => rfl, by omega⟩
      have e1 : (C.sl f x d.size o n c).ren β = .slice (some ⟨(β f x).1, (β f x).2.1 + o * d.size, none⟩) n c := by rw [sl_adr]; simp [adr, place, hfl]
      rw [e1]
      by_cases hn0 : n = 0
      · subst hn0
        have e2 : w.setRow (β f x).1 (cur.toList.take ((β f x).2.1 + o * d.size + 0) ++ (reps 0 d.zero).map (C.ren β) ++ cur.toList.drop ((β f x).2.1 + o * d.size + 0 + ((reps 0 d.zero).map (C.ren β)).length)).toArray = w := by
          have : (cur.toList.take ((β f x).2.1 + o * d.size + 0) ++ (reps 0 d.zero).map (C.ren β) ++ cur.toList.drop ((β f x).2.1 + o * d.size + 0 + ((reps 0 d.zero).map (C.ren β)).length)).toArray = cur := by simp [reps]
          rw [this]
          exact setRow_self w _ cur te (0, 0) hb
        rw [e2]
        simp [Builtin.clear_, run_underlying hu]
      · obtain ⟨n0, rfl⟩ := Nat.exists_eq_succ_of_ne_zero hn0
        have e3 : (Builtin.zeroCells z.cells (n0 + 1)).toList = (reps (n0 + 1) d.zero).map (C.ren β) := by
          have := zeros_eq (β := β) (n := n0 + 1) (l := d.zero)
          unfold Builtin.zeroCells
          rw [hz2]
          have e4 : (renL β d.zero).size = d.zero.length := by simp [renL]
          rw [e4]
          rw [e4] at this
          rw [this]
          rfl
        simp only [Builtin.clear_, List.getElem?_toArray, List.getElem?_cons_zero, Sem.run_bind, run_underlying hu, Result.andThen_ok, hz1, e3, hst, Sem.run_pure]
  | _ => exact hA.elim
theorem xval_of (hv : Valid tb P) (hr : Rel cx β s a w) {o : Oper} {K : T → List Fam → Prop} (h : xval tb s o.op K) : Val P cx β s a w K (execOp a.eval o) := by
  obtain ⟨t0, h0⟩ := s
  obtain ⟨dst, op, ty, pos, after, guard⟩ := o
  cases op with
  | box t x => exact box_of hv hr h
  | alloc t => exact alloc_of hv hr h
  | buildSlice t len parts => exact build_of hv hr h
  | makeSlice t l c =>
    obtain ⟨l', hl, h1⟩ := evC_of hr.tm h
    obtain ⟨c', hc, h2⟩ := evC_of hr.tm h1
    obtain ⟨d, hd, h3⟩ := td_of hv h2
    obtain ⟨i, ud, hi, hu, hs, _, hsh, _⟩ := Td.of_spec hd
    split at h3
    case h_2 => exact h3.elim
    have := shOf_slice (hsh.symm.trans (by assumption))
    subst this
    obtain ⟨d', hd', h4⟩ := td_of hv h3
    have := makeS_of hv hr hu hd' h4
    simp only [execOp, hl, hc]
    exact this
  | build t parts => exact buildS_of hv hr h
  | call c =>
    obtain ⟨callee, args, ats⟩ := c
    cases callee with
    | builtin b =>
      cases b with
      | append =>
        simp only [xval] at h
        split at h
        case h_2 => exact h.elim
        rename_i x y t t' hargs hats
        obtain ⟨htt, h1⟩ := ifB_of h
        have htt := Nat.eq_of_beq_eq_true htt
        subst htt
        obtain ⟨v, hx, hvb, h2⟩ := evC_of hr.tm (evC_wf (K' := fun v => v.bel h0.length ∧ _) hr.wf (fun v hv h => ⟨hv, h⟩) h1)
        obtain ⟨u, hy, h3⟩ := evC_of hr.tm h2
        obtain ⟨d, hd, h4⟩ := td_of hv h3
        obtain ⟨i, ud, hi, hu, hs, _, hsh, _⟩ := Td.of_spec hd
        split at h4
        case h_2 => exact h4.elim
        have := shOf_slice (hsh.symm.trans (by assumption))
        subst this
        obtain ⟨d', hd', h5⟩ := td_of hv h4
        have := append_of (ty := ty) hv hr hu hd' hvb h5
        obtain ⟨v', β', h', w', hrun, rest⟩ := this
        refine ⟨v', β', h', w', ?_, rest⟩
        have e1 : args.map a.eval = #[v.ren β, u.ren β] := by
          apply Array.toList_inj.1
          rw [Array.toList_map, hargs]
          simp [hx, hy]
        have e2 : ats = #[t, t] := Array.toList_inj.1 hats
        simp only [execOp, resolve, Sem.run_bind, Sem.run_pure, Result.andThen_ok, invoke, e1, e2]
        exact hrun
      | clear =>
        simp only [xval] at h
        split at h
        case h_2 => exact h.elim
        rename_i x t hargs hats
        obtain ⟨v, hx, h2⟩ := evC_of hr.tm h
        obtain ⟨d, hd, h4⟩ := td_of hv h2
        obtain ⟨i, ud, hi, hu, hs, _, hsh, _⟩ := Td.of_spec hd
        split at h4
        case h_2 => exact h4.elim
        have := shOf_slice (hsh.symm.trans (by assumption))
        subst this
        obtain ⟨d', hd', h5⟩ := td_of hv h4
        have := clear_of (ty := ty) hv hr hu hd' h5
        obtain ⟨v', β', h', w', hrun, rest⟩ := this
        refine ⟨v', β', h', w', ?_, rest⟩
        have e1 : args.map a.eval = #[v.ren β] := by
          apply Array.toList_inj.1
          rw [Array.toList_map, hargs]
          simp [hx]
        have e2 : ats = #[t] := Array.toList_inj.1 hats
        simp only [execOp, resolve, Sem.run_bind, Sem.run_pure, Result.andThen_ok, invoke, e1, e2]
        exact hrun
      | delete =>
        simp only [xval] at h
        split at h
        case h_2 => exact h.elim
        rename_i x y t ts hargs hats
        obtain ⟨m, hx, h1⟩ := evC_of hr.tm h
        obtain ⟨kc, hy, h2⟩ := evC_of hr.tm h1
        obtain ⟨v', β', h', w', hrun, rest⟩ := mapDel_of (ty := ty) (ts := ts) hv hr h2
        refine ⟨v', β', h', w', ?_, rest⟩
        have e1 : args.map a.eval = #[m.ren β, kc.ren β] := by
          apply Array.toList_inj.1
          rw [Array.toList_map, hargs]
          simp [hx, hy]
        have e2 : ats = (t :: ts).toArray := Array.toList_inj.1 (by rw [hats])
        simp only [execOp, resolve, Sem.run_bind, Sem.run_pure, Result.andThen_ok, invoke, e1, e2]
        exact hrun
      | _ => exact pure_val hv hr h
    | _ => exact pure_val hv hr h
  | lookup t x y ok =>
    obtain ⟨m, hx, h1⟩ := evC_of hr.tm h
    obtain ⟨kc, hy, h2⟩ := evC_of hr.tm h1
    have := look_of hv hr h2
    simp only [execOp, hx, hy]
    exact this
  | range t x =>
    obtain ⟨m, hx, h1⟩ := evC_of hr.tm h
    have := range_of hv hr h1
    simp only [execOp, hx]
    exact this
  | next x str =>
    cases str with
    | true => exact h.elim
    | false =>
      obtain ⟨it, hx, h1⟩ := evC_of hr.tm h
      have := next_of (P := P) (ty := ty) hr h1
      simp only [execOp, hx]
      exact this
  | entry x =>
    obtain ⟨it, hx, h1⟩ := evC_of hr.tm h
    have := entry_of (P := P) hr h1
    simp only [execOp, hx]
    exact this
  | makeMap t r =>
    have h : evO ⟨t0, h0⟩ r fun r => makeMapK tb h0 t r K := h
    obtain ⟨r', hx, h1⟩ := evO_of hr.tm h
    have := makeMap_of hv hr h1
    simp only [execOp, hx]
    exact this
  | _ => exact pure_val hv hr h
structure Left (β : Nm) (h : List Fam) (W : World) (β' : Nm) (h' : List Fam) (W' : World) : Prop where
  len : h.length ≤ h'.length
  pin : ∀ f x, f < h.length → β' f x = β f x
  ft : Fits β' h' W'
  wf : Wf ⟨[], h'⟩
  os : W'.os = W.os
  tape : W'.tape = W.tape
  out : W'.output = W.output
  hs : W.heap.size ≤ W'.heap.size
  fr : ∀ b, b < W.heap.size → (∀ f x, (get h f x).owned = true → (β f x).1 ≠ b) → W'.heap[b]? = W.heap[b]?
  ow : ∀ f x, (get h' f x).owned = true → (∃ g y, (get h g y).owned = true ∧ (β g y).1 = (β' f x).1) ∨ W.heap.size ≤ (β' f x).1
  kn : ∀ f x, (get h' f x).known = true → (∃ g y, (get h g y).known = true ∧ (β g y).1 = (β' f x).1) ∨ W.heap.size ≤ (β' f x).1
structure Ctr (P : Program) (F : Nat) (args : List T) (h : List Fam) (Q : T → List Fam → Prop) : Prop where
  cf : ∀ (args : Array Value) (W : World), (callFunc F args).run P W = .ok (.enter F args) W
  run : ∀ (β : Nm) (W : World), Fits β h W → Calls P F (args.map (T.ren β)).toArray W fun e W' => ∃ v h' β', Q v h' ∧ e = .returned (v.ren β') ∧ v.bel h'.length ∧ Left β h W β' h' W'
inductive Sg where
  | whole (g : Nat)
  | mem (g y : Nat)
  | name (g : Nat)
  | adopt (g x n : Nat)
def key (σ : List Sg) (N f x : Nat) : Nat × Nat :=
  match σ with
  | [] => (N + f, x)
  | .whole g :: r => match f with
    | 0 => (g, x)
    | f + 1 => key r N f x
  | .mem g y :: r => match f with
    | 0 => (g, y)
    | f + 1 => key r N f x
  | .name g :: r => match f with
    | 0 => (g, x)
    | f + 1 => key r N f x
  | .adopt g y n :: r => match f with
    | 0 => (if x = y then n else g, if x = y then 0 else x)
    | f + 1 => key r N f x
def C.rk (σ : List Sg) (N : Nat) : C → C
  | .p f x o => match key σ N f x with | (g, y) => .p g y o
  | .pe f x z e j => match key σ N f x with | (g, y) => .pe g y z e j
  | .sl f x z o n c => match key σ N f x with | (g, y) => .sl g y z o n c
  | .mp f x => match key σ N f x with | (g, y) => .mp g y
  | .fn F l => .fn F (l.map fun q => match key σ N q.1 q.2.1 with | (g, y) => (g, y, q.2.2))
  | .bf F l => .bf F l
  | .tt => .tt
  | .ff => .ff
  | .b x => .b x
  | .i k n => .i k n
  | .s x => .s x
  | .nilp => .nilp
  | .nils => .nils
  | .nilm => .nilm
  | .nilf => .nilf
def E.rk (σ : List Sg) (N : Nat) : E → E
  | .c v => .c (v.rk σ N)
  | .a l => .a (l.map (C.rk σ N))
def T.rk (σ : List Sg) (N : Nat) : T → T
  | .c v => .c (v.rk σ N)
  | .a l => .a (l.map (C.rk σ N))
  | .t l => .t (l.map (E.rk σ N))
def Ck.rk (σ : List Sg) (N : Nat) : Ck → Ck
  | .no => .no
  | .cells w l => .cells w (l.map (C.rk σ N))
  | .row w k e z n c f => match k with
    | true => .row w true e z n c fun i => (f i).map (C.rk σ N)
    | false => .row w false e z n c f
  | .map w k ck n f => match k with
    | true => .map w true ck n fun i => ((f i).1, (f i).2.1, (f i).2.2.rk σ N)
    | false => .map w false ck n f
  | .iter m x ck seen => match key σ N m x with | (g, y) => .iter g y ck seen
def Fam.rk (σ : List Sg) (N : Nat) : Fam → Fam
  | .one q => .one (q.rk σ N)
  | .many g => .many fun x => (g x).rk σ N
def apart : List Sg → Bool
  | [] => true
  | .whole g :: r => r.all (fun q => match q with | .whole g' => !Nat.beq g g' | .mem g' _ => !Nat.beq g g' | .name _ => true | .adopt _ _ _ => false) && apart r
  | .mem g _ :: r => r.all (fun q => match q with | .whole g' => !Nat.beq g g' | .mem g' _ => !Nat.beq g g' | .name _ => true | .adopt _ _ _ => false) && apart r
  | .name _ :: r => apart r
  | .adopt _ _ _ :: _ => false
def gives (σ0 : List Sg) (N : Nat) : List Fam → List Sg → List Fam → (List Fam → Prop) → Prop
  | H, [], h', K => K (H ++ h'.map (Fam.rk σ0 N))
  | H, .whole g :: r, m :: h', K => setK H g (m.rk σ0 N) fun H' => gives σ0 N H' r h' K
  | H, .mem g y :: r, m :: h', K => m.atK 0 fun q => updK H g y (q.rk σ0 N) fun H' => gives σ0 N H' r h' K
  | H, .name _ :: r, _ :: h', K => gives σ0 N H r h' K
  | _, .adopt _ _ _ :: _, _, _ => False
  | _, _ :: _, [], _ => False
where
  setK : List Fam → Nat → Fam → (List Fam → Prop) → Prop
  | [], _, _, _ => False
  | _ :: l, 0, m, K => K (m :: l)
  | a :: l, g + 1, m, K => setK l g m fun l' => K (a :: l')
end Go.X
set_option linter.constructorNameAsVariable false
set_option linter.unusedVariables false
namespace Go.X
variable {cx : Cx} {β : Nm} {s : S} {a : Act} {w : World} {P : Program} {tb : Tb}
section rk
variable {σ : List Sg} {N : Nat} {β βc : Nm}
theorem rk_C (h : ∀ f x, βc f x = β (key σ N f x).1 (key σ N f x).2) (v : C) : (v.rk σ N).ren β = v.ren βc := by
  have pl : ∀ f x o, place β (key σ N f x).1 (key σ N f x).2 o = place βc f x o := fun f x o => by unfold place; rw [h f x]
  cases v <;> simp only [C.rk, C.ren]
  · rw [pl]
  · rw [pl]
  · rw [pl, h]
  · rw [h]
  · simp only [List.map_map]
    congr 2
    apply List.map_congr_left
    intro q _
    simp only [Function.comp, pl]
theorem rk_L (h : ∀ f x, βc f x = β (key σ N f x).1 (key σ N f x).2) (l : List C) : renL β (l.map (C.rk σ N)) = renL βc l := by
  unfold renL
  simp only [List.map_map]
  congr 1
  exact List.map_congr_left fun v _ => rk_C h v
theorem rk_T (h : ∀ f x, βc f x = β (key σ N f x).1 (key σ N f x).2) (v : T) : (v.rk σ N).ren β = v.ren βc := by
  cases v with
  | c v => exact rk_C h v
  | a l => simp only [T.rk, T.ren, rk_L h]
  | t l =>
    simp only [T.rk, T.ren, List.map_map]
    congr 2
    apply List.map_congr_left
    intro e _
    cases e with
    | c v => exact rk_C h v
    | a l => simp only [Function.comp, E.rk, E.ren, rk_L h]
theorem rk_flat {v : C} (hv : v.flat = true) : v.rk σ N = v := by
  cases v <;> simp_all [C.flat, C.rk]
theorem flat_rk (v : C) : (v.rk σ N).flat = v.flat := by
  cases v <;> simp [C.flat, C.rk]
theorem rk_E (h : ∀ f x, βc f x = β (key σ N f x).1 (key σ N f x).2) (v : E) : (v.rk σ N).ren β = v.ren βc := by
  cases v with
  | c v => exact rk_C h v
  | a l => simp only [E.rk, E.ren, rk_L h]
theorem rk_holds (h : ∀ f x, βc f x = β (key σ N f x).1 (key σ N f x).2) {c : Ck} {w : World} {A : Nat × Nat × Fl} : (c.rk σ N).holds β w A ↔ c.holds βc w A := by
  cases c with
  | no => exact Iff.rfl
  | cells own l =>
    constructor
    · rintro ⟨cur, e, fz, hb, hc, ho⟩
      refine ⟨cur, e, fz, hb, fun j v hj => ?_, ho⟩
      rw [hc j (v.rk σ N) (by simp [hj]), rk_C h]
    · rintro ⟨cur, e, fz, hb, hc, ho⟩
      refine ⟨cur, e, fz, hb, fun j v hj => ?_, ho⟩
      rw [List.getElem?_map] at hj
      obtain ⟨u, hu, rfl⟩ := Option.map_eq_some_iff.1 hj
      rw [hc j u hu, rk_C h]
  | row own k e z n c f =>
    cases k with
    | true =>
      constructor
      · rintro ⟨q1, q2, _, q4, q5⟩
        refine ⟨q1, q2, fun e => (by cases e), fun i hi => by simpa using q4 i hi, fun h0 => ?_⟩
        obtain ⟨cur, te, fz, hb, hc, ho⟩ := q5 h0
        refine ⟨cur, te, fz, hb, fun i hi j v hj => ?_, ho⟩
        rw [hc i hi j (v.rk σ N) (by simp [hj]), rk_C h]
      · rintro ⟨q1, q2, _, q4, q5⟩
        refine ⟨q1, q2, fun e => (by cases e), fun i hi => by simpa using q4 i hi, fun h0 => ?_⟩
        obtain ⟨cur, te, fz, hb, hc, ho⟩ := q5 h0
        refine ⟨cur, te, fz, hb, fun i hi j v hj => ?_, ho⟩
        rw [List.getElem?_map] at hj
        obtain ⟨u, hu, rfl⟩ := Option.map_eq_some_iff.1 hj
        rw [hc i hi j u hu, rk_C h]
    | false =>
      constructor
      · rintro ⟨q1, q2, hk, q4, q5⟩
        refine ⟨q1, q2, hk, q4, fun h0 => ?_⟩
        obtain ⟨cur, te, fz, hb, hc, ho⟩ := q5 h0
        exact ⟨cur, te, fz, hb, fun i hi j v hj => by rw [hc i hi j v hj]; rw [C.flat_ren (hk rfl i hi v (List.mem_of_getElem? hj)) β βc], ho⟩
      · rintro ⟨q1, q2, hk, q4, q5⟩
        refine ⟨q1, q2, hk, q4, fun h0 => ?_⟩
        obtain ⟨cur, te, fz, hb, hc, ho⟩ := q5 h0
        exact ⟨cur, te, fz, hb, fun i hi j v hj => by rw [hc i hi j v hj]; rw [C.flat_ren (hk rfl i hi v (List.mem_of_getElem? hj)) β βc], ho⟩
  | map own k ck n f =>
    cases k with
    | true =>
      constructor
      · rintro ⟨⟨es, h1, h2, h3⟩, h4, h5, _⟩
        exact ⟨⟨es, h1, h2, fun i hi => by rw [h3 i hi, rk_E h]⟩, h4, h5, fun e => by cases e⟩
      · rintro ⟨⟨es, h1, h2, h3⟩, h4, h5, _⟩
        exact ⟨⟨es, h1, h2, fun i hi => by rw [h3 i hi, rk_E h]⟩, h4, h5, fun e => by cases e⟩
    | false =>
      constructor
      · rintro ⟨⟨es, h1, h2, h3⟩, h4, h5, h6⟩
        exact ⟨⟨es, h1, h2, fun i hi => by rw [h3 i hi, E.flat_ren (h6 rfl i hi) β βc]⟩, h4, h5, h6⟩
      · rintro ⟨⟨es, h1, h2, h3⟩, h4, h5, h6⟩
        exact ⟨⟨es, h1, h2, fun i hi => by rw [h3 i hi, E.flat_ren (h6 rfl i hi) β βc]⟩, h4, h5, h6⟩
  | iter m x ck seen =>
    show (A.2.1 = 0 ∧ w.heap[A.1]? = some (.mapIter (some (β (key σ N m x).1 (key σ N m x).2).1) ck seen.toArray ck)) ↔ (A.2.1 = 0 ∧ w.heap[A.1]? = some (.mapIter (some (βc m x).1) ck seen.toArray ck))
    rw [h m x]
theorem rk_owned (c : Ck) : (c.rk σ N).owned = c.owned := by
  cases c with
  | row own k e z n c f => cases k <;> rfl
  | map own k ck n f => cases k <;> rfl
  | _ => rfl
theorem rk_known (c : Ck) : (c.rk σ N).known = c.known := by
  cases c with
  | row own k e z n c f => cases k <;> rfl
  | map own k ck n f => cases k <;> rfl
  | _ => rfl
theorem rk_at (m : Fam) (x : Nat) : (m.rk σ N).at x = (m.at x).rk σ N := by
  cases m with
  | one q => cases x <;> rfl
  | many g => rfl
theorem bel_C {n M : Nat} (h : ∀ f x, f < n → (key σ N f x).1 < M) {v : C} (hv : v.bel n) : (v.rk σ N).bel M := by
  cases v <;> simp only [C.rk, C.bel] at hv ⊢
  · exact h _ _ hv
  · exact h _ _ hv
  · exact h _ _ hv
  · exact h _ _ hv
  · intro q hq
    obtain ⟨p, hp, rfl⟩ := List.mem_map.1 hq
    exact h _ _ (hv p hp)
theorem bel_T {n M : Nat} (h : ∀ f x, f < n → (key σ N f x).1 < M) {v : T} (hv : v.bel n) : (v.rk σ N).bel M := by
  cases v with
  | c v => exact bel_C h hv
  | a l =>
    intro v hm
    obtain ⟨u, hu, rfl⟩ := List.mem_map.1 hm
    exact bel_C h (hv u hu)
  | t l =>
    intro e hm
    obtain ⟨u, hu, rfl⟩ := List.mem_map.1 hm
    have := hv u hu
    cases u with
    | c v => exact bel_C h this
    | a l =>
      intro v hm
      obtain ⟨u, hu, rfl⟩ := List.mem_map.1 hm
      exact bel_C h (this u hu)
theorem bel_Ck {n M : Nat} (h : ∀ f x, f < n → (key σ N f x).1 < M) {c : Ck} (hf : ∀ β w A, c.holds β w A → True) (hk : ∀ own e z m cc f, c = .row own false e z m cc f → ∀ i, i < m → ∀ v ∈ f i, v.flat = true) (hc : c.bel n) : (c.rk σ N).bel M := by
  cases c with
  | no => trivial
  | cells own l =>
    intro v hm
    obtain ⟨u, hu, rfl⟩ := List.mem_map.1 hm
    exact bel_C h (hc u hu)
  | row own k e z m cc f =>
    cases k with
    | true =>
      intro i hi v hm
      obtain ⟨u, hu, rfl⟩ := List.mem_map.1 hm
      exact bel_C h (hc i hi u hu)
    | false =>
      intro i hi v hm
      have := hk own e z m cc f rfl i hi v hm
      rw [← rk_flat (σ := σ) (N := N) this]
      exact bel_C h (hc i hi v hm)
  | map own k ck m f =>
    cases k with
    | true =>
      intro i hi
      have := hc i hi
      show ((f i).2.2.rk σ N).bel M
      cases hv : (f i).2.2 with
      | c v => rw [hv] at this; exact bel_C h this
      | a l =>
        rw [hv] at this
        intro v hm
        obtain ⟨u, hu, rfl⟩ := List.mem_map.1 hm
        exact bel_C h (this u hu)
    | false => exact fun i hi => hc i hi
  | iter m x ck seen => exact h m x hc
end rk
def Tgt (σ : List Sg) (g y : Nat) : Prop := ∃ f : Nat, σ[f]? = some (.whole g) ∨ σ[f]? = some (.mem g y)
theorem key_whole : ∀ {σ : List Sg} {N f g x : Nat}, σ[f]? = some (.whole g) → key σ N f x = (g, x)
  | [], N, f, g, x, h => by simp at h
  | q :: r, N, 0, g, x, h => by
    simp at h; subst h; rfl
  | q :: r, N, f + 1, g, x, h => by
    have := key_whole (σ := r) (N := N) (x := x) (by simpa using h)
    cases q <;> exact this
theorem key_mem : ∀ {σ : List Sg} {N f g y x : Nat}, σ[f]? = some (.mem g y) → key σ N f x = (g, y)
  | [], N, f, g, y, x, h => by simp at h
  | q :: r, N, 0, g, y, x, h => by
    simp at h; subst h; rfl
  | q :: r, N, f + 1, g, y, x, h => by
    have := key_mem (σ := r) (N := N) (x := x) (by simpa using h)
    cases q <;> exact this
theorem key_name : ∀ {σ : List Sg} {N f g x : Nat}, σ[f]? = some (.name g) → key σ N f x = (g, x)
  | [], N, f, g, x, h => by simp at h
  | q :: r, N, 0, g, x, h => by
    simp at h; subst h; rfl
  | q :: r, N, f + 1, g, x, h => by
    have := key_name (σ := r) (N := N) (x := x) (by simpa using h)
    cases q <;> exact this
theorem key_adopt : ∀ {σ : List Sg} {N f g y n x : Nat}, σ[f]? = some (.adopt g y n) → key σ N f x = (if x = y then n else g, if x = y then 0 else x)
  | [], N, f, g, y, n, x, h => by simp at h
  | q :: r, N, 0, g, y, n, x, h => by
    simp at h; subst h; rfl
  | q :: r, N, f + 1, g, y, n, x, h => by
    have := key_adopt (σ := r) (N := N) (x := x) (by simpa using h)
    cases q <;> exact this
theorem key_new : ∀ {σ : List Sg} {N f x : Nat}, σ.length ≤ f → key σ N f x = (N + (f - σ.length), x)
  | [], N, f, x, h => rfl
  | q :: r, N, 0, x, h => by simp at h
  | q :: r, N, f + 1, x, h => by
    have := key_new (σ := r) (N := N) (x := x) (f := f) (by simpa using h)
    have e : f + 1 - (q :: r).length = f - r.length := by simp
    rw [e]
    cases q <;> exact this
def Sg.fam : Sg → Nat
  | .whole g => g
  | .mem g _ => g
  | .name g => g
  | .adopt g _ _ => g
def Sg.nm : Sg → Bool
  | .name _ => true
  | _ => false
theorem apart_noadopt : ∀ {σ : List Sg}, Go.X.apart σ = true → ∀ (i g x n : Nat), σ[i]? ≠ some (.adopt g x n)
  | [], _, i, g, x, n => by simp
  | r :: l, h, i, g, x, n => by
    have hh : Go.X.apart l = true ∧ r ≠ .adopt g x n := by
      cases r with
      | whole q => exact ⟨(Bool.and_eq_true_iff.1 h).2, by simp⟩
      | mem q y => exact ⟨(Bool.and_eq_true_iff.1 h).2, by simp⟩
      | name q => exact ⟨h, by simp⟩
      | adopt a b c => cases h
    cases i with
    | zero => simp; exact hh.2
    | succ i => simpa using apart_noadopt hh.1 i g x n
theorem apart_spec : ∀ {σ : List Sg}, Go.X.apart σ = true → ∀ (i j : Nat) (p q : Sg), σ[i]? = some p → σ[j]? = some q → i ≠ j → p.nm = false → q.nm = false → p.fam ≠ q.fam
  | [], _, i, j, p, q, hp, _, _, _, _ => by simp at hp
  | r :: l, h, i, j, p, q, hp, hq, hne, np, nq => by
    have hl : Go.X.apart l = true := by
      cases r with
      | whole q => exact (Bool.and_eq_true_iff.1 h).2
      | mem q y => exact (Bool.and_eq_true_iff.1 h).2
      | name q => exact h
      | adopt a b c => cases h
    have first : r.nm = false → ∀ (q : Sg), q ∈ l → q.nm = false → r.fam ≠ q.fam := by
      intro hr q hq hqn
      have hh : l.all (fun q => match q with | .whole g' => !Nat.beq r.fam g' | .mem g' _ => !Nat.beq r.fam g' | .name _ => true | .adopt _ _ _ => false) = true := by
        cases r with
        | whole q => exact (Bool.and_eq_true_iff.1 h).1
        | mem q y => exact (Bool.and_eq_true_iff.1 h).1
        | name q => cases hr
        | adopt a b c => cases h
      have := List.all_eq_true.1 hh q hq
      intro e
      have e2 : Nat.beq r.fam q.fam = true := by rw [e]; exact Nat.beq_refl _
      cases q with
      | name g => cases hqn
      | adopt a b c => cases this
      | _ => simp only [Sg.fam] at e2 this; rw [e2] at this; cases this
    cases i with
    | zero =>
      cases j with
      | zero => exact absurd rfl hne
      | succ j =>
        simp at hp hq
        subst hp
        exact first np q (List.mem_of_getElem? hq) nq
    | succ i =>
      cases j with
      | zero =>
        simp at hp hq
        subst hq
        exact (first nq p (List.mem_of_getElem? hp) np).symm
      | succ j => exact apart_spec hl i j p q (by simpa using hp) (by simpa using hq) (by omega) np nq
theorem setK_of : ∀ {H : List Fam} {g : Nat} {m : Fam} {K : List Fam → Prop}, gives.setK H g m K → ∃ H', K H' ∧ H'.length = H.length ∧ (∀ y, get H' g y = m.at y) ∧ ∀ g' y, g' ≠ g → get H' g' y = get H g' y
  | [], g, m, K, h => by cases g <;> exact h.elim
  | _ :: l, 0, m, K, h => ⟨_, h, by simp, by simp [get], fun g' y hne => by
      cases g' with
      | zero => exact absurd rfl hne
      | succ g' => simp [get]⟩
  | a :: l, g + 1, m, K, h => by
    obtain ⟨H', hk, h1, h2, h3⟩ := setK_of (H := l) (g := g) (m := m) (K := fun l' => K (a :: l')) h
    refine ⟨_, hk, by simp [h1], fun y => by simpa [get] using h2 y, fun g' y hne => ?_⟩
    cases g' with
    | zero => simp [get]
    | succ g' => simpa [get] using h3 g' y (by omega)
theorem gives_of {σ0 : List Sg} {N : Nat} : ∀ {σ : List Sg} {H h' : List Fam} {K : List Fam → Prop}, Go.X.apart σ = true → (∀ q ∈ σ, q.fam < H.length) → gives σ0 N H σ h' K →
    ∃ H', K H' ∧ σ.length ≤ h'.length ∧ H'.length = H.length + (h'.length - σ.length) ∧
      (∀ f g : Nat, σ[f]? = some (.whole g) → ∀ y, get H' g y = (get h' f y).rk σ0 N) ∧ (∀ f g y : Nat, σ[f]? = some (.mem g y) → get H' g y = (get h' f 0).rk σ0 N) ∧
      (∀ g y, g < H.length → ¬ Tgt σ g y → get H' g y = get H g y) ∧ (∀ i y, get H' (H.length + i) y = (get h' (σ.length + i) y).rk σ0 N)
  | [], H, h', K, _, _, h => by
    have h1 : K (H ++ h'.map (Fam.rk σ0 N)) := by unfold gives at h; exact h
    refine ⟨_, h1, by simp, by simp, by simp, by simp, fun g y hg _ => ?_, fun i y => ?_⟩
    · unfold get; rw [List.getElem?_append_left hg]
    · unfold get
      rw [List.getElem?_append_right (by omega), List.getElem?_map]
      simp only [List.length_nil, Nat.zero_add, Nat.add_sub_cancel_left]
      cases h'[i]? with
      | none => rfl
      | some m => exact rk_at m y
  | .whole g :: r, H, [], K, _, _, h => h.elim
  | .mem g y :: r, H, [], K, _, _, h => h.elim
  | .name g :: r, H, [], K, _, _, h => h.elim
  | .adopt g y n :: r, H, l, K, ha, _, h => by cases ha
  | .name g :: r, H, m :: h', K, ha, hlt, h => by
    have ha' : Go.X.apart r = true := ha
    have h : gives σ0 N H r h' K := h
    obtain ⟨H', hk, i1, i2, i3, i4, i5, i6⟩ := gives_of ha' (fun q hq => hlt q (by simp [hq])) h
    refine ⟨H', hk, by simp; omega, by simp; omega, fun f g' hf y => ?_, fun f g' y' hf => ?_, fun g' y hg' hn => ?_, fun i y => ?_⟩
    · cases f with
      | zero => simp at hf
      | succ f => simpa [get] using i3 f g' (by simpa using hf) y
    · cases f with
      | zero => simp at hf
      | succ f => simpa [get] using i4 f g' y' (by simpa using hf)
    · exact i5 g' y hg' fun ⟨f, hf⟩ => hn ⟨f + 1, by simpa using hf⟩
    · rw [i6 i y]
      simp only [get, List.length_cons]
      rw [show r.length + 1 + i = (r.length + i) + 1 from by omega, List.getElem?_cons_succ]
  | .whole g :: r, H, m :: h', K, ha, hlt, h => by
    obtain ⟨H1, h1, hl1, hs1, ho1⟩ := setK_of h
    have ha' : Go.X.apart r = true := (Bool.and_eq_true_iff.1 ha).2
    obtain ⟨H', hk, i1, i2, i3, i4, i5, i6⟩ := gives_of ha' (fun q hq => by rw [hl1]; exact hlt q (by simp [hq])) h1
    have hgr : ∀ q ∈ r, q.nm = false → g ≠ q.fam := by
      intro q hq hqn
      obtain ⟨j, hj⟩ := List.getElem?_of_mem hq
      exact apart_spec ha 0 (j + 1) (.whole g) q (by simp) (by simpa using hj) (by omega) rfl hqn
    have hnt : ∀ y, ¬ Tgt r g y := by
      rintro y ⟨f, hf | hf⟩
      · exact hgr _ (List.mem_of_getElem? hf) rfl rfl
      · exact hgr _ (List.mem_of_getElem? hf) rfl rfl
    have hg : g < H.length := hlt (.whole g) (by simp)
    refine ⟨H', hk, by simp; omega, by simp; omega, fun f g' hf y => ?_, fun f g' y' hf => ?_, fun g' y hg' hn => ?_, fun i y => ?_⟩
    · cases f with
      | zero =>
        simp at hf; subst hf
        rw [i5 g y (by omega) (hnt y), hs1, rk_at]; simp [get]
      | succ f => simpa [get] using i3 f g' (by simpa using hf) y
    · cases f with
      | zero => simp at hf
      | succ f => simpa [get] using i4 f g' y' (by simpa using hf)
    · have hn' : ¬ Tgt r g' y := fun ⟨f, hf⟩ => hn ⟨f + 1, by simpa using hf⟩
      have hne : g' ≠ g := fun e => hn ⟨0, .inl (by simp [e])⟩
      rw [i5 g' y (by omega) hn', ho1 g' y hne]
    · have := i6 i y
      rw [hl1] at this
      rw [this]
      simp only [get, List.length_cons]
      rw [show r.length + 1 + i = (r.length + i) + 1 from by omega, List.getElem?_cons_succ]
  | .mem g y :: r, H, m :: h', K, ha, hlt, h => by
    have h : m.atK 0 fun q => updK H g y (q.rk σ0 N) fun H' => gives σ0 N H' r h' K := h
    have h0 : updK H g y ((m.at 0).rk σ0 N) fun H' => gives σ0 N H' r h' K := by
      cases m with
      | one q => exact h
      | many g => exact ManyK.of h
    obtain ⟨H1, h1, hl1, hs1, ho1⟩ := updK_of h0
    have ha' : Go.X.apart r = true := (Bool.and_eq_true_iff.1 ha).2
    obtain ⟨H', hk, i1, i2, i3, i4, i5, i6⟩ := gives_of ha' (fun q hq => by rw [hl1]; exact hlt q (by simp [hq])) h1
    have hgr : ∀ q ∈ r, q.nm = false → g ≠ q.fam := by
      intro q hq hqn
      obtain ⟨j, hj⟩ := List.getElem?_of_mem hq
      exact apart_spec ha 0 (j + 1) (.mem g y) q (by simp) (by simpa using hj) (by omega) rfl hqn
    have hnt : ∀ y, ¬ Tgt r g y := by
      rintro y ⟨f, hf | hf⟩
      · exact hgr _ (List.mem_of_getElem? hf) rfl rfl
      · exact hgr _ (List.mem_of_getElem? hf) rfl rfl
    have hg : g < H.length := hlt (.mem g y) (by simp)
    refine ⟨H', hk, by simp; omega, by simp; omega, fun f g' hf y => ?_, fun f g' y' hf => ?_, fun g' y' hg' hn => ?_, fun i y => ?_⟩
    · cases f with
      | zero => simp at hf
      | succ f => simpa [get] using i3 f g' (by simpa using hf) y
    · cases f with
      | zero =>
        simp at hf
        obtain ⟨rfl, rfl⟩ := hf
        rw [i5 g y (by omega) (hnt y), hs1]; simp [get]
      | succ f => simpa [get] using i4 f g' y' (by simpa using hf)
    · have hn' : ¬ Tgt r g' y' := fun ⟨f, hf⟩ => hn ⟨f + 1, by simpa using hf⟩
      have hne : (g', y') ≠ (g, y) := fun e => hn ⟨0, .inr (by cases e; simp)⟩
      rw [i5 g' y' (by omega) hn', ho1 g' y' hne]
    · have := i6 i y
      rw [hl1] at this
      rw [this]
      simp only [get, List.length_cons]
      rw [show r.length + 1 + i = (r.length + i) + 1 from by omega, List.getElem?_cons_succ]
end Go.X
set_option linter.constructorNameAsVariable false
set_option linter.unusedVariables false
namespace Go.X
variable {cx : Cx} {β : Nm} {s : S} {a : Act} {w : World} {P : Program} {tb : Tb}
theorem Fits.flat {h : List Fam} (hf : Fits β h w) (f x : Nat) : ∀ own e z m cc g, get h f x = .row own false e z m cc g → ∀ i, i < m → ∀ v ∈ g i, v.flat = true := by
  intro own e z m cc g hg
  have := hf.ck f x
  rw [hg] at this
  obtain ⟨_, _, hk, _⟩ := this
  exact hk rfl
theorem Ck.known_ne {c : Ck} (h : c.known = true) : c ≠ .no := fun e => by subst e; cases h
theorem rk_ne {σ : List Sg} {N : Nat} {c : Ck} (h : c.rk σ N ≠ .no) : c ≠ .no := fun e => h (by subst e; rfl)
theorem callK_core (hr : Rel cx β s a w) {F : Nat} {σ : List Sg} {args0 : List T} {h0 : List Fam} {Q : T → List Fam → Prop} {K : T → List Fam → Prop} (sp : Ctr P F args0 h0 Q) (hap : Go.X.apart σ = true) (hlen : σ.length = h0.length)
    (hwh : ∀ f g : Nat, σ[f]? = some (.whole g) → g < s.h.length ∧ ∀ y, get s.h g y = (get h0 f y).rk σ s.h.length)
    (hme : ∀ f g y : Nat, σ[f]? = some (.mem g y) → g < s.h.length ∧ get s.h g y = (get h0 f 0).rk σ s.h.length ∧ ∀ x, x ≠ 0 → get h0 f x = .no)
    (hnm : ∀ f g : Nat, σ[f]? = some (.name g) → g < s.h.length ∧ ∀ x, get h0 f x = .no)
    (hK : ∀ v h', Q v h' → capsP h' → gives σ s.h.length s.h σ h' fun H' => K (v.rk σ s.h.length) H') :
    Calls P F ((args0.map (T.rk σ s.h.length)).map (T.ren β)).toArray w fun e w' => ∃ v h' β', e = .returned (v.ren β') ∧ K v h' ∧ v.bel h'.length ∧ Agree s.h.length β β' ∧ s.h.length ≤ h'.length ∧ Rel cx β' ⟨s.t, h'⟩ a w' := by
  generalize hN : s.h.length = N at *
  let βc : Nm := fun f x => β (key σ N f x).1 (key σ N f x).2
  have hβc : ∀ f x, βc f x = β (key σ N f x).1 (key σ N f x).2 := fun _ _ => rfl
  have hfam : ∀ q ∈ σ, q.fam < s.h.length := by
    intro q hq
    obtain ⟨j, hj⟩ := List.getElem?_of_mem hq
    cases q with
    | whole g => rw [hN]; exact (hwh j g hj).1
    | mem g y => rw [hN]; exact (hme j g y hj).1
    | name g => rw [hN]; exact (hnm j g hj).1
    | adopt a b c => exact absurd hj (apart_noadopt hap _ _ _ _)
  have hkey : ∀ f x, get h0 f x ≠ .no → f < σ.length ∧ Tgt σ (key σ N f x).1 (key σ N f x).2 ∧ (key σ N f x).1 < s.h.length ∧ get s.h (key σ N f x).1 (key σ N f x).2 = (get h0 f x).rk σ N ∧ (∀ g y, σ[f]? = some (.mem g y) → x = 0) ∧ ∃ q, σ[f]? = some q ∧ q.nm = false := by
    intro f x hk
    have hf : f < h0.length := get_lt hk
    rw [← hlen] at hf
    cases hq : σ[f]? with
    | none => simp at hq; omega
    | some q =>
      cases q with
      | whole g =>
        rw [key_whole hq]
        obtain ⟨h1, h2⟩ := hwh f g hq
        exact ⟨hf, ⟨f, .inl hq⟩, by rw [hN]; exact h1, h2 x, (fun _ _ e => by cases e), _, rfl, rfl⟩
      | mem g y =>
        rw [key_mem hq]
        obtain ⟨h1, h2, h3⟩ := hme f g y hq
        have hx : x = 0 := by
          by_cases hx : x = 0
          · exact hx
          · exact absurd (h3 x hx) hk
        subst hx
        exact ⟨hf, ⟨f, .inr hq⟩, by rw [hN]; exact h1, h2, (fun _ _ _ => rfl), _, rfl, rfl⟩
      | name g => exact absurd ((hnm f g hq).2 x) hk
      | adopt a b c => exact absurd hq (apart_noadopt hap _ _ _ _)
  have hinj : ∀ f x f' x', f < σ.length → f' < σ.length → (∀ g y, σ[f]? = some (.mem g y) → x = 0) → (∀ g y, σ[f']? = some (.mem g y) → x' = 0) → (∃ q, σ[f]? = some q ∧ q.nm = false) → (∃ q, σ[f']? = some q ∧ q.nm = false) → (f, x) ≠ (f', x') → key σ N f x ≠ key σ N f' x' := by
    intro f x f' x' hf hf' hx hx' hn1 hn2 hne
    have hq := List.getElem?_eq_getElem hf
    have hq' := List.getElem?_eq_getElem hf'
    by_cases hff : f = f'
    · subst hff
      have hxx : x ≠ x' := fun e => hne (by rw [e])
      cases hc : σ[f] with
      | whole g =>
        rw [hc] at hq
        rw [key_whole hq, key_whole hq]
        intro e; cases e; exact hxx rfl
      | mem g y =>
        rw [hc] at hq
        exact absurd ((hx g y hq).trans (hx' g y hq).symm) hxx
      | name g =>
        rw [hc] at hq
        obtain ⟨q, hq1, hq2⟩ := hn1
        rw [hq] at hq1
        cases hq1; cases hq2
      | adopt a b c => rw [hc] at hq; exact absurd hq (apart_noadopt hap _ _ _ _)
    · have hne1 : σ[f].nm = false := by
        obtain ⟨q, hq1, hq2⟩ := hn1
        rw [hq] at hq1
        cases hq1; exact hq2
      have hne2 : σ[f'].nm = false := by
        obtain ⟨q, hq1, hq2⟩ := hn2
        rw [hq'] at hq1
        cases hq1; exact hq2
      have := apart_spec hap f f' _ _ hq hq' hff hne1 hne2
      have k1 : (key σ N f x).1 = σ[f].fam := by
        cases hc : σ[f] with
        | whole g => rw [hc] at hq; rw [key_whole hq]; rfl
        | mem g y => rw [hc] at hq; rw [key_mem hq]; rfl
        | name g => rw [hc] at hq; rw [key_name hq]; rfl
        | adopt a b c => rw [hc] at hq; exact absurd hq (apart_noadopt hap _ _ _ _)
      have k2 : (key σ N f' x').1 = σ[f'].fam := by
        cases hc : σ[f'] with
        | whole g => rw [hc] at hq'; rw [key_whole hq']; rfl
        | mem g y => rw [hc] at hq'; rw [key_mem hq']; rfl
        | name g => rw [hc] at hq'; rw [key_name hq']; rfl
        | adopt a b c => rw [hc] at hq'; exact absurd hq' (apart_noadopt hap _ _ _ _)
      intro e
      rw [← k1, ← k2, e] at this
      exact this rfl
  have hfit : Fits βc h0 w := by
    constructor
    · intro f x
      by_cases hk : get h0 f x = .no
      · rw [hk]; trivial
      · obtain ⟨_, _, _, h4, _⟩ := hkey f x hk
        have := hr.ft.ck (key σ N f x).1 (key σ N f x).2
        rw [h4] at this
        exact (rk_holds hβc).1 this
    · intro f x g y hne ho hk
      obtain ⟨a1, a2, a3, a4, a5, a6⟩ := hkey f x (Ck.known_ne (Ck.owned_known ho))
      obtain ⟨b1, b2, b3, b4, b5, b6⟩ := hkey g y (Ck.known_ne hk)
      have := hinj f x g y a1 b1 a5 b5 a6 b6 hne
      exact hr.ft.sep _ _ _ _ (fun e => this (Prod.ext (congrArg Prod.fst e) (congrArg Prod.snd e))) (by rw [a4, rk_owned]; exact ho) (by rw [b4, rk_known]; exact hk)
  have hrun := sp.run βc w hfit
  have eargs : (List.map (T.ren β) (List.map (T.rk σ N) args0)).toArray = (args0.map (T.ren βc)).toArray := by
    rw [List.map_map]
    congr 1
    exact List.map_congr_left fun v _ => rk_T hβc v
  rw [eargs]
  refine hrun.mono fun e w' ⟨v, h', β', hQ, he, hvb, L⟩ => ?_
  have hg := hK v h' hQ (capsP_of L.ft)
  obtain ⟨H', hk, g1, g2, g3, g4, g5, g6⟩ := gives_of hap hfam hg
  let βn : Nm := fun g y => if g < N then β g y else β' (g - N + σ.length) y
  have hag : Agree s.h.length β βn := fun g y hg => by
    show β g y = if g < N then _ else _
    rw [if_pos (by omega)]
  have hβn : ∀ f x, β' f x = βn (key σ N f x).1 (key σ N f x).2 := by
    intro f x
    show _ = if (key σ N f x).1 < N then _ else _
    by_cases hf : f < σ.length
    · have hlt : (key σ N f x).1 < N := by
        have hq := List.getElem?_eq_getElem hf
        cases hc : σ[f] with
        | whole g => rw [hc] at hq; rw [key_whole hq]; have := (hwh f g hq).1; omega
        | mem g y => rw [hc] at hq; rw [key_mem hq]; have := (hme f g y hq).1; omega
        | name g => rw [hc] at hq; rw [key_name hq]; have := (hnm f g hq).1; simp only; omega
        | adopt a b c => rw [hc] at hq; exact absurd hq (apart_noadopt hap _ _ _ _)
      rw [if_pos hlt, L.pin f x (by omega)]
    · rw [key_new (by omega)]
      rw [if_neg (by simp)]
      simp only
      congr 1
      omega
  have hbel : ∀ f x, f < h'.length → (key σ N f x).1 < H'.length := by
    intro f x hf
    by_cases hfs : f < σ.length
    · have hq := List.getElem?_eq_getElem hfs
      have := hfam _ (List.getElem_mem hfs)
      cases hc : σ[f] with
      | whole g => rw [hc] at hq this; rw [key_whole hq]; simp [Sg.fam] at this; simp only; omega
      | mem g y => rw [hc] at hq this; rw [key_mem hq]; simp [Sg.fam] at this; simp only; omega
      | name g => rw [hc] at hq this; rw [key_name hq]; simp [Sg.fam] at this; simp only; omega
      | adopt a b c => rw [hc] at hq; exact absurd hq (apart_noadopt hap _ _ _ _)
    · rw [key_new (by omega)]; simp only; omega
  have hcases : ∀ g y, get H' g y ≠ .no → (∃ f x, get h' f x ≠ .no ∧ get H' g y = (get h' f x).rk σ N ∧ βn g y = β' f x ∧ key σ N f x = (g, y) ∧ (∀ g y, σ[f]? = some (.mem g y) → x = 0)) ∨ (g < s.h.length ∧ ¬ Tgt σ g y ∧ get H' g y = get s.h g y ∧ βn g y = β g y) := by
    intro g y hkn
    by_cases hg : g < s.h.length
    · by_cases ht : Tgt σ g y
      · left
        obtain ⟨f, hf | hf⟩ := ht
        · have e1 := g3 f g hf y
          refine ⟨f, y, by rw [e1] at hkn; exact rk_ne hkn, e1, ?_, key_whole hf, fun _ _ e => by rw [hf] at e; cases e⟩
          rw [hβn f y, key_whole hf]
        · have e1 := g4 f g y hf
          refine ⟨f, 0, by rw [e1] at hkn; exact rk_ne hkn, e1, ?_, key_mem hf, fun _ _ _ => rfl⟩
          rw [hβn f 0, key_mem hf]
      · right
        exact ⟨hg, ht, g5 g y hg ht, (hag g y hg).symm⟩
    · left
      have e1 := g6 (g - s.h.length) y
      rw [show s.h.length + (g - s.h.length) = g from by omega] at e1
      have e2 : key σ N (σ.length + (g - s.h.length)) y = (g, y) := by
        rw [key_new (by omega)]
        congr 1
        omega
      refine ⟨σ.length + (g - s.h.length), y, by rw [e1] at hkn; exact rk_ne hkn, e1, ?_, e2, fun g' y' e => ?_⟩
      · rw [hβn, e2]
      · have := (List.getElem?_eq_some_iff.1 e).1; omega
  have holdblk : ∀ g y, g < s.h.length → ¬ Tgt σ g y → (get s.h g y).known = true → ∀ f x, (get h0 f x).owned = true → (βc f x).1 ≠ (β g y).1 := by
    intro g y hg hn hkn f x ho
    obtain ⟨a1, a2, a3, a4, a5⟩ := hkey f x (Ck.known_ne (Ck.owned_known ho))
    refine hr.ft.sep _ _ g y (fun e => hn ?_) (by rw [a4, rk_owned]; exact ho) hkn
    cases e; exact a2
  have hokn : ∀ g y, g < s.h.length → ¬ Tgt σ g y → (get s.h g y).owned = true → ∀ f x, (get h0 f x).known = true → (β g y).1 ≠ (βc f x).1 := by
    intro g y hg hn ho f x hkn
    obtain ⟨a1, a2, a3, a4, a5⟩ := hkey f x (Ck.known_ne hkn)
    refine hr.ft.sep g y _ _ (fun e => hn ?_) ho (by rw [a4, rk_known]; exact hkn)
    rw [show g = (key σ N f x).1 from congrArg Prod.fst e, show y = (key σ N f x).2 from congrArg Prod.snd e]
    exact a2
  refine ⟨v.rk σ N, H', βn, ?_, hk, bel_T hbel hvb, by rw [← hN]; exact hag, by omega, ?_⟩
  · rw [he, rk_T hβn]
  refine hr.step (by omega) hag ?_ ?_ L.os L.tape L.out L.hs (fun b hb hne => L.fr b hb fun f x ho => ?_) ?_ ?_
  · constructor
    · intro g y
      by_cases hkn : get H' g y = .no
      · rw [hkn]; trivial
      · rcases hcases g y hkn with ⟨f, x, c1, c2, c3, c4, c5⟩ | ⟨d1, d2, d3, d4⟩
        · rw [c2, c3]
          exact (rk_holds hβn).2 (L.ft.ck f x)
        · rw [d3, d4]
          cases hkn : (get s.h g y).known with
          | false => exact Ck.holds_unknown hkn (hr.ft.ck g y) (hr.wf.h g y) hag
          | true =>
          have hlt := Ck.holds_lt (hr.ft.ck g y) hkn
          exact Ck.holds_agree (hr.wf.h g y) hag (Ck.holds_block (hr.ft.ck g y) (L.fr _ hlt (holdblk g y d1 d2 hkn)))
    · intro g y g' y' hne ho hkn
      have hkn0 := Ck.owned_known ho
      rcases hcases g y (Ck.known_ne hkn0) with ⟨f, x, c1, c2, c3, c4, c5⟩ | ⟨d1, d2, d3, d4⟩
      · rw [c2, rk_owned] at ho
        rcases hcases g' y' (Ck.known_ne hkn) with ⟨f', x', c1', c2', c3', c4', c5'⟩ | ⟨d1', d2', d3', d4'⟩
        · rw [c3, c3']
          refine L.ft.sep f x f' x' (fun e => hne ?_) ho (by rw [c2', rk_known] at hkn; exact hkn)
          cases e
          rw [← c4, ← c4']
        · rw [c3, d4']
          rw [d3'] at hkn
          rcases L.ow f x ho with ⟨f0, x0, o1, o2⟩ | o1
          · rw [← o2]; exact holdblk g' y' d1' d2' hkn f0 x0 o1
          · have hlt := Ck.holds_lt (hr.ft.ck g' y') hkn
            omega
      · rw [d3] at ho
        rcases hcases g' y' (Ck.known_ne hkn) with ⟨f', x', c1', c2', c3', c4', c5'⟩ | ⟨d1', d2', d3', d4'⟩
        · rw [c3', d4]
          rcases L.kn f' x' (by rw [c2', rk_known] at hkn; exact hkn) with ⟨f0, x0, o1, o2⟩ | o1
          · rw [← o2]; exact hokn g y d1 d2 ho f0 x0 o1
          · have hlt := Ck.holds_lt (hr.ft.ck g y) (Ck.owned_known ho)
            omega
        · rw [d4, d4']
          rw [d3'] at hkn
          exact hr.ft.sep g y g' y' hne ho hkn
  · intro g y
    by_cases hkn : get H' g y = .no
    · rw [hkn]; trivial
    · rcases hcases g y hkn with ⟨f, x, c1, c2, c3, c4, c5⟩ | ⟨d1, d2, d3, d4⟩
      · rw [c2]
        exact bel_Ck hbel (fun _ _ _ _ => trivial) (L.ft.flat f x) (L.wf.h f x)
      · rw [d3]; exact Ck.bel_mono (hr.wf.h g y) (by omega)
  · obtain ⟨a1, a2, a3, a4, a5⟩ := hkey f x (Ck.known_ne (Ck.owned_known ho))
    exact hne _ _ (by rw [a4, rk_owned]; exact ho)
  · intro g y ho
    rcases hcases g y (Ck.known_ne (Ck.owned_known ho)) with ⟨f, x, c1, c2, c3, c4, c5⟩ | ⟨d1, d2, d3, d4⟩
    · rw [c2, rk_owned] at ho
      rw [c3]
      rcases L.ow f x ho with ⟨f0, x0, o1, o2⟩ | o1
      · obtain ⟨a1, a2, a3, a4, a5⟩ := hkey f0 x0 (Ck.known_ne (Ck.owned_known o1))
        exact .inl ⟨_, _, by rw [a4, rk_owned]; exact o1, o2⟩
      · exact .inr o1
    · rw [d3] at ho
      exact .inl ⟨g, y, ho, by rw [d4]⟩
  · intro g y ho
    rcases hcases g y (Ck.known_ne ho) with ⟨f, x, c1, c2, c3, c4, c5⟩ | ⟨d1, d2, d3, d4⟩
    · rw [c3]
      rcases L.kn f x (by rw [c2, rk_known] at ho; exact ho) with ⟨f0, x0, o1, o2⟩ | o1
      · obtain ⟨a1, a2, a3, a4, a5⟩ := hkey f0 x0 (Ck.known_ne o1)
        exact .inl ⟨_, _, by rw [a4, rk_known]; exact o1, o2⟩
      · exact .inr o1
    · rw [d3] at ho
      exact .inl ⟨g, y, ho, by rw [d4]⟩
end Go.X
set_option linter.constructorNameAsVariable false
set_option linter.unusedVariables false
namespace Go.X
def C.belB (n : Nat) : C → Bool
  | .p f _ _ => Nat.blt f n
  | .pe f _ _ _ _ => Nat.blt f n
  | .sl f _ _ _ _ _ => Nat.blt f n
  | .mp f _ => Nat.blt f n
  | .fn _ l => l.all fun q => Nat.blt q.1 n
  | _ => true
def E.belB (n : Nat) : E → Bool
  | .c v => v.belB n
  | .a l => l.all (C.belB n)
def T.belB (n : Nat) : T → Bool
  | .c v => v.belB n
  | .a l => l.all (C.belB n)
  | .t l => l.all (E.belB n)
def Ck.belK (n : Nat) (c : Ck) (A : Prop) : Prop :=
  match c with
  | .no => A
  | .cells _ l => ifB (l.all (C.belB n)) A
  | .row _ k _ _ m _ f => match k with
    | false => A
    | true => (∀ i, i < m → (f i).all (C.belB n) = true) ∧ A
  | .map _ k _ m f => match k with
    | false => (∀ i, i < m → (f i).2.2.flat = true) ∧ A
    | true => (∀ i, i < m → (f i).2.2.belB n = true) ∧ A
  | .iter m _ _ _ => ifB (Nat.blt m n) A
def Fam.belK (n : Nat) (m : Fam) (A : Prop) : Prop :=
  match m with
  | .one q => q.belK n A
  | .many g => (∀ x, (g x).belK n True) ∧ A
def belsK (n : Nat) : List Fam → Prop → Prop
  | [], A => A
  | m :: r, A => m.belK n (belsK n r A)
def C.eqK (N : Nat) (u v : C) (A : Prop) : Prop :=
  match u, v with
  | .tt, .tt => A
  | .ff, .ff => A
  | .tt, .b y => y = true ∧ A
  | .ff, .b y => y = false ∧ A
  | .b x, .tt => x = true ∧ A
  | .b x, .ff => x = false ∧ A
  | .b x, .b y => x = y ∧ A
  | .i k n, .i k' n' => sameK k k' (n = n' ∧ A)
  | .s x, .s y => x = y ∧ A
  | .nilp, .nilp => A
  | .p f x o, .p g y o' => ifB (Nat.beq f g) (x = y ∧ o = o' ∧ A)
  | .pe f x z e j, .pe g y z' e' j' => ifB (Nat.beq f g) (x = y ∧ z = z' ∧ e = e' ∧ j = j' ∧ A)
  | .nils, .nils => A
  | .sl f x z o n c, .sl g y z' o' n' c' => ifB (Nat.beq f g) (x = y ∧ z = z' ∧ o = o' ∧ n = n' ∧ c = c' ∧ A)
  | .nils, .sl g _ _ _ n c => ifB (Nat.ble N g) (n = 0 ∧ c = 0 ∧ A)
  | .nilm, .nilm => A
  | .mp f x, .mp g y => ifB (Nat.beq f g) (x = y ∧ A)
  | .nilf, .nilf => A
  | .fn F l, .fn G m => ifB (Nat.beq F G) (l = m ∧ A)
  | .bf F l, .bf G m => ifB (Nat.beq F G) (l = m ∧ A)
  | _, _ => False
def eqL (N : Nat) : List C → List C → Prop → Prop
  | [], [], A => A
  | u :: l, v :: m, A => u.eqK N v (eqL N l m A)
  | _, _, _ => False
def E.eqK (N : Nat) (u v : E) (A : Prop) : Prop :=
  match u, v with
  | .c u, .c v => u.eqK N v A
  | .a l, .a m => eqL N l m A
  | _, _ => False
def eqE (N : Nat) : List E → List E → Prop → Prop
  | [], [], A => A
  | u :: l, v :: m, A => u.eqK N v (eqE N l m A)
  | _, _, _ => False
def T.eqK (N : Nat) (u v : T) (A : Prop) : Prop :=
  match u, v with
  | .c u, .c v => u.eqK N v A
  | .a l, .a m => eqL N l m A
  | .t l, .t m => eqE N l m A
  | _, _ => False
def sameB (a b : Bool) (A : Prop) : Prop := a = b ∧ A
def Ck.leK (N : Nat) (q q' : Ck) (A : Prop) : Prop :=
  match q' with
  | .no => A
  | .cells w' l' => match q with
    | .cells w l => sameB w w' (eqL N l l' A)
    | _ => False
  | .row w' k' e' z' n' c' f' => match q with
    | .row w k e z n c f => sameB w w' (sameB k k' (e = e' ∧ z = z' ∧ n' ≤ n ∧ c = c' ∧ (∀ i, i < n' → f i = f' i) ∧ A))
    | _ => False
  | .map w' k' ck' n' f' => match q with
    | .map w k ck n f => sameB w w' (sameB k k' (ck = ck' ∧ n = n' ∧ (∀ i, i < n' → f i = f' i) ∧ A))
    | _ => False
  | .iter m' x' ck' seen' => match q with
    | .iter m x ck seen => m = m' ∧ x = x' ∧ ck = ck' ∧ seen = seen' ∧ A
    | _ => False
def Fam.leK (N : Nat) (m m' : Fam) (A : Prop) : Prop :=
  match m' with
  | .one q' => match q' with
    | .no => A
    | q' => match m with
      | .one q => q.leK N q' A
      | _ => False
  | .many g' => match m with
    | .many g => (∀ x, (g x).leK N (g' x) True) ∧ A
    | _ => False
instance (n : Nat) : OfNat Sg n := ⟨.whole n⟩
def nthN {α : Type} : List α → Nat → (α → Prop) → Prop → Prop
  | [], _, _, B => B
  | a :: _, 0, K, _ => K a
  | _ :: l, i + 1, K, B => nthN l i K B
def nilLe (m' : Fam) (A : Prop) : Prop :=
  match m' with
  | .one q => match q with
    | .row _ _ _ _ n c _ => n = 0 ∧ c = 0 ∧ A
    | .no => A
    | _ => False
  | .many g => (∀ x, g x = .no) ∧ A
def adoptK (N : Nat) (σ0 : List Sg) (m q : Fam) (y : Nat) (m' : Fam) (A : Prop) : Prop :=
  match m' with
  | .many G' => match m with
    | .many G => match q with
      | .one c => (∀ x, x ≠ y → (G x).leK N ((G' x).rk σ0 0) True) ∧ c.leK N ((G' y).rk σ0 0) A
      | _ => False
    | _ => False
  | _ => False
def lesK (h : List Fam) (σ0 : List Sg) : List Sg → List Fam → Prop → Prop
  | [], [], A => A
  | .whole g :: σ, m' :: h', A => nthN h g (fun m => m.leK h.length (m'.rk σ0 0) (lesK h σ0 σ h' A)) (nilLe m' (lesK h σ0 σ h' A))
  | .adopt g y n :: σ, m' :: h', A => nth h g fun m => nth h n fun q => adoptK h.length σ0 m q y m' (lesK h σ0 σ h' A)
  | _, _, _ => False
def pinB : Nat → Nat → List Sg → Bool
  | 0, _, _ => true
  | m + 1, i, .whole g :: σ => Nat.beq g i && pinB m (i + 1) σ
  | _ + 1, _, _ => false
def Sg.uses (p : Sg) (g : Nat) : Bool :=
  match p with
  | .whole k => Nat.beq g k
  | .adopt k _ n => Nat.beq g k || Nat.beq g n
  | _ => false
def Sg.meets (p q : Sg) : Bool :=
  match q with
  | .whole k => p.uses k
  | .adopt k _ n => p.uses k || p.uses n
  | _ => false
def deadB : Fam → Bool
  | .one q => match q with
    | .no => true
    | _ => false
  | .many _ => false
def laterB (g : Sg) : List Sg → List Fam → Bool
  | g' :: σ, m :: h => (match g.meets g' with | true => deadB m | false => true) && laterB g σ h
  | _, _ => true
def nodupD : List Sg → List Fam → Bool
  | g :: σ, m :: h => (match deadB m with | true => true | false => laterB g σ h) && nodupD σ h
  | _, _ => true
def entH (m : Nat) (σ : List Sg) (h h' : List Fam) (A : Prop) : Prop :=
  ifB (pinB m 0 σ && nodupD σ h') (lesK h σ σ h' (belsK h'.length h' A))
def entT (N : Nat) (t : List (Nat × T)) (σ0 : List Sg) (n : Nat) : List (Nat × T) → Prop → Prop
  | [], A => A
  | (i, v) :: r, A => ifB (v.belB n) (lk t i fun u => u.eqK N (v.rk σ0 0) (entT N t σ0 n r A))
def entP (m : Nat) (σ : List Sg) (s s' : S) : Prop := entH m σ s.h s'.h (entT s.h.length s.t σ s'.h.length s'.t True)
variable {cx : Cx} {β : Nm} {s : S} {a : Act} {w : World} {P : Program} {tb : Tb}
theorem blt_lt {a b : Nat} (h : Nat.blt a b = true) : a < b := by have := Nat.le_of_ble_eq_true h; omega
theorem C.belB_bel {n : Nat} {v : C} (h : v.belB n = true) : v.bel n := by
  cases v <;> simp only [C.belB, C.bel] at h ⊢ <;> first | exact blt_lt h | (intro q hq; exact blt_lt (List.all_eq_true.1 h q hq)) | trivial
theorem T.belB_bel {n : Nat} {v : T} (h : v.belB n = true) : v.bel n := by
  cases v with
  | c v => exact C.belB_bel h
  | a l => exact fun v hv => C.belB_bel (List.all_eq_true.1 h v hv)
  | t l =>
    intro e he
    have := List.all_eq_true.1 h e he
    cases e with
    | c v => exact C.belB_bel this
    | a l => exact fun v hv => C.belB_bel (List.all_eq_true.1 this v hv)
def NilAbove (N : Nat) (β : Nm) : Prop := ∀ g x, N ≤ g → (β g x).2.2 = .nil
theorem eqC_of {N : Nat} {u v : C} {A : Prop} (h : u.eqK N v A) : (∀ β, NilAbove N β → u.ren β = v.ren β) ∧ A := by
  unfold C.eqK at h
  split at h <;> first
    | exact h.elim
    | exact ⟨fun _ _ => rfl, h⟩
    | (obtain ⟨rfl, h2⟩ := h; exact ⟨fun _ _ => rfl, h2⟩)
    | (obtain ⟨rfl, h1⟩ := sameK_of h; obtain ⟨rfl, h2⟩ := h1; exact ⟨fun _ _ => rfl, h2⟩)
    | (obtain ⟨hb, h1⟩ := ifB_of h; have := Nat.eq_of_beq_eq_true hb; subst this; first
        | (obtain ⟨rfl, rfl, rfl, rfl, rfl, h2⟩ := h1; exact ⟨fun _ _ => rfl, h2⟩)
        | (obtain ⟨rfl, rfl, rfl, rfl, h2⟩ := h1; exact ⟨fun _ _ => rfl, h2⟩)
        | (obtain ⟨rfl, rfl, h2⟩ := h1; exact ⟨fun _ _ => rfl, h2⟩)
        | (obtain ⟨rfl, h2⟩ := h1; exact ⟨fun _ _ => rfl, h2⟩))
    | (obtain ⟨hb, h1⟩ := ifB_of h; have := Nat.le_of_ble_eq_true hb; obtain ⟨rfl, rfl, h2⟩ := h1
       exact ⟨fun β hβ => by rw [sl_adr]; unfold adr; rw [hβ _ _ this]; rfl, h2⟩)
theorem eqL_of {N : Nat} : ∀ {l m : List C} {A : Prop}, eqL N l m A → l.length = m.length ∧ (∀ β, NilAbove N β → l.map (C.ren β) = m.map (C.ren β)) ∧ A
  | [], [], A, h => ⟨rfl, fun _ _ => rfl, h⟩
  | [], _ :: _, A, h => h.elim
  | _ :: _, [], A, h => h.elim
  | u :: l, v :: m, A, h => by
    obtain ⟨h1, h2⟩ := eqC_of h
    obtain ⟨h3, h4, h5⟩ := eqL_of h2
    exact ⟨by simp [h3], fun β hβ => by simp [h1 β hβ, h4 β hβ], h5⟩
theorem eqE_of {N : Nat} : ∀ {l m : List E} {A : Prop}, eqE N l m A → (∀ β, NilAbove N β → l.map (E.ren β) = m.map (E.ren β)) ∧ A
  | [], [], A, h => ⟨fun _ _ => rfl, h⟩
  | [], _ :: _, A, h => h.elim
  | _ :: _, [], A, h => h.elim
  | u :: l, v :: m, A, h => by
    have : (∀ β, NilAbove N β → u.ren β = v.ren β) ∧ eqE N l m A := by
      have h : u.eqK N v (eqE N l m A) := h
      cases u <;> cases v <;> first | exact h.elim | skip
      · exact eqC_of h
      · obtain ⟨_, h4, h5⟩ := eqL_of h
        exact ⟨fun β hβ => by simp [E.ren, renL, h4 β hβ], h5⟩
    obtain ⟨h4, h5⟩ := eqE_of this.2
    exact ⟨fun β hβ => by simp [this.1 β hβ, h4 β hβ], h5⟩
theorem eqT_of {N : Nat} {u v : T} {A : Prop} (h : u.eqK N v A) : (∀ β, NilAbove N β → u.ren β = v.ren β) ∧ A := by
  cases u <;> cases v <;> first | exact h.elim | skip
  · exact eqC_of h
  · obtain ⟨_, h4, h5⟩ := eqL_of h
    exact ⟨fun β hβ => by simp [T.ren, renL, h4 β hβ], h5⟩
  · obtain ⟨h4, h5⟩ := eqE_of h
    exact ⟨fun β hβ => by simp [T.ren, h4 β hβ], h5⟩
theorem sameB_of {a b : Bool} {A : Prop} (h : sameB a b A) : a = b ∧ A := by
  exact h
structure Ck.Le (N : Nat) (q q' : Ck) : Prop where
  holds : ∀ β w A, NilAbove N β → q.holds β w A → q'.holds β w A
  owned : q'.owned = true → q.owned = true
  known : q'.known = true → q.known = true
theorem leK_of {N : Nat} {q q' : Ck} {A : Prop} (h : q.leK N q' A) : q.Le N q' ∧ A := by
  unfold Ck.leK at h
  split at h
  · exact ⟨⟨fun _ _ _ _ _ => trivial, fun h => (by cases h), fun h => (by cases h)⟩, h⟩
  · split at h
    · obtain ⟨rfl, h0⟩ := sameB_of h
      obtain ⟨h1, h2, h3⟩ := eqL_of h0
      refine ⟨⟨fun β w A hβ ⟨cur, e, fz, hb, hc, ho⟩ => ⟨cur, e, fz, hb, fun j v hj => ?_, ho⟩, fun h => h, fun _ => rfl⟩, h3⟩
      have := congrArg (·[j]?) (h2 β hβ)
      simp only [List.getElem?_map, hj, Option.map_some] at this
      obtain ⟨u, hu, he⟩ := Option.map_eq_some_iff.1 this
      rw [hc j u hu, he]
    · exact h.elim
  · split at h
    · obtain ⟨rfl, h0⟩ := sameB_of h
      obtain ⟨rfl, rfl, rfl, hnn, rfl, hf, hA⟩ := sameB_of h0
      refine ⟨⟨fun β w A _ ⟨q1, q2, q3, q4, q5⟩ => ⟨Nat.le_trans hnn q1, q2, fun hk' i hi => ?_, fun i hi => ?_, fun h0 => ?_⟩, fun h => h, fun h => h⟩, hA⟩
      · rw [← hf i hi]; exact q3 hk' i (by omega)
      · rw [← hf i hi]; exact q4 i (by omega)
      · obtain ⟨cur, te, fz, hb, hc, ho⟩ := q5 h0
        exact ⟨cur, te, fz, hb, fun i hi => by rw [← hf i hi]; exact hc i (by omega), ho⟩
    · exact h.elim
  · split at h
    · obtain ⟨rfl, h0⟩ := sameB_of h
      obtain ⟨rfl, h1⟩ := sameB_of h0
      obtain ⟨rfl, rfl, hf, hA⟩ := h1
      refine ⟨⟨fun β w A _ ⟨⟨es, q1, q2, q3⟩, q4, q5, q6⟩ => ⟨⟨es, q1, q2, fun i hi => by rw [← hf i hi]; exact q3 i hi⟩, fun i hi => by rw [← hf i hi]; exact q4 i hi, fun i j hij hj => by rw [← hf i (by omega), ← hf j hj]; exact q5 i j hij hj, fun hk i hi => by rw [← hf i hi]; exact q6 hk i hi⟩, fun h => h, fun h => h⟩, hA⟩
    · exact h.elim
  · split at h
    · obtain ⟨rfl, rfl, rfl, rfl, hA⟩ := h
      exact ⟨⟨fun β w A _ hh => hh, fun h => h, fun h => h⟩, hA⟩
    · exact h.elim
theorem Ck.Le.no {N : Nat} (q : Ck) : q.Le N .no := ⟨fun _ _ _ _ _ => trivial, fun h => (by cases h), fun h => (by cases h)⟩
theorem famLe_of {N : Nat} {m m' : Fam} {A : Prop} (h : m.leK N m' A) : (∀ x, (m.at x).Le N (m'.at x)) ∧ A := by
  unfold Fam.leK at h
  split at h
  · split at h
    · exact ⟨fun x => by cases x <;> exact Ck.Le.no _, h⟩
    · split at h
      · obtain ⟨h1, h2⟩ := leK_of h
        exact ⟨fun x => by cases x with | zero => exact h1 | succ x => exact Ck.Le.no _, h2⟩
      · exact h.elim
  · split at h
    · exact ⟨fun x => (leK_of (h.1 x)).1, h.2⟩
    · exact h.elim
theorem nthN_of {α : Type} : ∀ {l : List α} {i : Nat} {K : α → Prop} {B : Prop}, nthN l i K B → (∃ v, l[i]? = some v ∧ K v) ∨ (l.length ≤ i ∧ B)
  | [], i, K, B, h => .inr ⟨by simp, h⟩
  | a :: l, 0, K, B, h => .inl ⟨a, rfl, h⟩
  | a :: l, i + 1, K, B, h => by
    rcases nthN_of (l := l) h with ⟨v, hv, hk⟩ | ⟨hl, hb⟩
    · exact .inl ⟨v, by simpa using hv, hk⟩
    · exact .inr ⟨by simp; omega, hb⟩
def NilCk (q : Ck) : Prop := q = .no ∨ ∃ own k e z f, q = .row own k e z 0 0 f
theorem NilCk.unknown {q : Ck} (h : NilCk q) : q.known = false := by
  rcases h with rfl | ⟨own, k, e, z, f, rfl⟩ <;> rfl
theorem NilCk.unowned {q : Ck} (h : NilCk q) : q.owned = false := by
  rcases h with rfl | ⟨own, k, e, z, f, rfl⟩
  · rfl
  · cases own <;> rfl
theorem NilCk.holds {q : Ck} (h : NilCk q) (β : Nm) (w : World) (A : Nat × Nat × Fl) : q.holds β w A := by
  rcases h with rfl | ⟨own, k, e, z, f, rfl⟩
  · trivial
  · exact ⟨Nat.le_refl _, fun _ => rfl, fun _ i hi => by omega, fun i hi => by omega, fun h => absurd rfl h⟩
theorem nilLe_of {m' : Fam} {A : Prop} (h : nilLe m' A) : (∀ x, NilCk (m'.at x)) ∧ A := by
  unfold nilLe at h
  split at h
  · split at h
    · obtain ⟨rfl, rfl, hA⟩ := h
      exact ⟨fun x => by cases x with | zero => exact .inr ⟨_, _, _, _, _, rfl⟩ | succ x => exact .inl rfl, hA⟩
    · exact ⟨fun x => by cases x <;> exact .inl rfl, h⟩
    · exact h.elim
  · exact ⟨fun x => .inl (h.1 x), h.2⟩
theorem lesK_of {h : List Fam} {σ0 : List Sg} : ∀ {σ : List Sg} {h' : List Fam} {A : Prop}, lesK h σ0 σ h' A →
    σ.length = h'.length ∧ (∀ f x : Nat, f < σ.length → ((key σ 0 f x).1 < h.length ∧ (get h (key σ 0 f x).1 (key σ 0 f x).2).Le h.length ((get h' f x).rk σ0 0)) ∨ (∃ q, σ[f]? = some q ∧ q.uses (key σ 0 f x).1 = true ∧ NilCk (get h' f x))) ∧
      (∀ f g y n : Nat, σ[f]? = some (.adopt g y n) → g ≠ n) ∧ (∀ q ∈ σ, q.nm = false ∧ ∀ g y, q ≠ .mem g y) ∧ A
  | [], [], A, hh => ⟨rfl, by simp, by simp, by simp, hh⟩
  | [], _ :: _, A, hh => hh.elim
  | .whole _ :: _, [], A, hh => hh.elim
  | .adopt _ _ _ :: _, [], A, hh => hh.elim
  | .mem _ _ :: _, l, A, hh => by cases l <;> exact hh.elim
  | .name _ :: _, l, A, hh => by cases l <;> exact hh.elim
  | .whole g :: σ, m' :: h', A, hh => by
    rcases nthN_of hh with ⟨m, hm, h1⟩ | ⟨hgl, h1⟩
    · obtain ⟨h2, h3⟩ := famLe_of h1
      obtain ⟨i1, i2, i3, i5, i4⟩ := lesK_of h3
      refine ⟨by simp [i1], fun f x hf => ?_, fun f g' y n hf => ?_, ?_, i4⟩
      · cases f with
        | zero =>
          left
          refine ⟨(List.getElem?_eq_some_iff.1 hm).1, ?_⟩
          have := h2 x
          rw [rk_at] at this
          simpa [get, hm, key] using this
        | succ f => simpa [get, key] using i2 f x (by simpa using hf)
      · cases f with
        | zero => simp at hf
        | succ f => exact i3 f g' y n (by simpa using hf)
      · intro q hq
        rcases List.mem_cons.1 hq with rfl | hq
        · exact ⟨rfl, by simp⟩
        · exact i5 q hq
    · obtain ⟨h2, h3⟩ := nilLe_of h1
      obtain ⟨i1, i2, i3, i5, i4⟩ := lesK_of h3
      refine ⟨by simp [i1], fun f x hf => ?_, fun f g' y n hf => ?_, ?_, i4⟩
      · cases f with
        | zero =>
          right
          exact ⟨.whole g, by simp, by simp [key, Sg.uses], by simpa [get] using h2 x⟩
        | succ f => simpa [get, key] using i2 f x (by simpa using hf)
      · cases f with
        | zero => simp at hf
        | succ f => exact i3 f g' y n (by simpa using hf)
      · intro q hq
        rcases List.mem_cons.1 hq with rfl | hq
        · exact ⟨rfl, by simp⟩
        · exact i5 q hq
  | .adopt g y n :: σ, m' :: h', A, hh => by
    obtain ⟨m, hm, hh⟩ := nth_of hh
    obtain ⟨q, hq, hh⟩ := nth_of hh
    unfold adoptK at hh
    split at hh
    · rename_i G'
      split at hh
      · rename_i G
        split at hh
        · rename_i c
          obtain ⟨h1, h2⟩ := hh
          obtain ⟨h3, h4⟩ := leK_of h2
          obtain ⟨i1, i2, i3, i5, i4⟩ := lesK_of h4
          refine ⟨by simp [i1], fun f x hf => ?_, fun f g' y' n' hf => ?_, ?_, i4⟩
          · cases f with
            | zero =>
              left
              by_cases hx : x = y
              · subst hx
                simp only [key, if_true]
                refine ⟨(List.getElem?_eq_some_iff.1 hq).1, ?_⟩
                simpa [get, hq, Fam.at] using h3
              · simp only [key, if_neg hx]
                refine ⟨(List.getElem?_eq_some_iff.1 hm).1, ?_⟩
                have := (leK_of (h1 x hx)).1
                simpa [get, hm, Fam.at] using this
            | succ f => simpa [get, key] using i2 f x (by simpa using hf)
          · cases f with
            | zero =>
              simp at hf
              obtain ⟨rfl, rfl, rfl⟩ := hf
              intro e
              subst e
              rw [hm] at hq
              cases hq
            | succ f => exact i3 f g' y' n' (by simpa using hf)
          · intro q hq
            rcases List.mem_cons.1 hq with rfl | hq
            · exact ⟨rfl, by simp⟩
            · exact i5 q hq
        · exact hh.elim
      · exact hh.elim
    · exact hh.elim
theorem pinB_of : ∀ {m i : Nat} {σ : List Sg}, pinB m i σ = true → ∀ f, f < m → σ[f]? = some (.whole (i + f))
  | 0, _, _, _, f, hf => by omega
  | m + 1, i, [], h, f, hf => by cases h
  | m + 1, i, .mem _ _ :: σ, h, f, hf => by cases h
  | m + 1, i, .name _ :: σ, h, f, hf => by cases h
  | m + 1, i, .adopt _ _ _ :: σ, h, f, hf => by cases h
  | m + 1, i, .whole g :: σ, h, f, hf => by
    obtain ⟨h1, h2⟩ := Bool.and_eq_true_iff.1 h
    have := Nat.eq_of_beq_eq_true h1
    cases f with
    | zero => simp [this]
    | succ f =>
      have := pinB_of h2 f (by omega)
      rw [List.getElem?_cons_succ, this]
      congr 2; omega
theorem meets_of {p q : Sg} {g : Nat} (h1 : p.uses g = true) (h2 : q.uses g = true) : p.meets q = true := by
  cases q with
  | whole k => have := Nat.eq_of_beq_eq_true h2; subst this; exact h1
  | adopt k y n =>
    rcases (Bool.or_eq_true _ _).mp h2 with e | e
    · have := Nat.eq_of_beq_eq_true e; subst this; exact (Bool.or_eq_true _ _).mpr (.inl h1)
    · have := Nat.eq_of_beq_eq_true e; subst this; exact (Bool.or_eq_true _ _).mpr (.inr h1)
  | mem k y => cases h2
  | name k => cases h2
theorem key_uses {σ : List Sg} {f : Nat} (hs : ∀ q ∈ σ, q.nm = false ∧ ∀ g y, q ≠ .mem g y) {q : Sg} (hq : σ[f]? = some q) (x : Nat) : q.uses (key σ 0 f x).1 = true := by
  have hm := hs q (List.mem_of_getElem? hq)
  cases q with
  | whole g => rw [key_whole hq]; exact Nat.beq_refl _
  | adopt g y n =>
    rw [key_adopt hq]
    by_cases h : x = y
    · simp [h, Sg.uses]
    · simp [h, Sg.uses]
  | mem g y => exact absurd rfl (hm.2 g y)
  | name g => exact absurd hm.1 (by simp [Sg.nm])
theorem belK_of {n : Nat} {c : Ck} {A : Prop} (h : c.belK n A) (hf : ∀ own e z m cc g, c = .row own false e z m cc g → ∀ i, i < m → ∀ v ∈ g i, v.flat = true) : c.bel n ∧ A := by
  cases c with
  | no => exact ⟨trivial, h⟩
  | cells w l =>
    obtain ⟨h1, h2⟩ := ifB_of h
    exact ⟨fun v hv => C.belB_bel (List.all_eq_true.1 h1 v hv), h2⟩
  | row w k e z m cc g =>
    cases k with
    | false =>
      refine ⟨fun i hi v hv => ?_, h⟩
      have := hf w e z m cc g rfl i hi v hv
      cases v <;> simp_all [C.flat, C.bel]
    | true => exact ⟨fun i hi v hv => C.belB_bel (List.all_eq_true.1 (h.1 i hi) v hv), h.2⟩
  | map w k ck m f =>
    cases k with
    | false => exact ⟨fun i hi => h.1 i hi, h.2⟩
    | true =>
      refine ⟨fun i hi => ?_, h.2⟩
      have := h.1 i hi
      show (f i).2.2.bel n
      cases hv : (f i).2.2 with
      | c v => rw [hv] at this; exact C.belB_bel this
      | a l => rw [hv] at this; exact fun v hv => C.belB_bel (List.all_eq_true.1 this v hv)
  | iter m x ck seen =>
    obtain ⟨h1, h2⟩ := ifB_of h
    exact ⟨blt_lt h1, h2⟩
theorem belsK_of {n : Nat} : ∀ {h : List Fam} {A : Prop}, belsK n h A → (∀ f x, ∀ own e z m cc g, get h f x = .row own false e z m cc g → ∀ i, i < m → ∀ v ∈ g i, v.flat = true) → (∀ f x, (get h f x).bel n) ∧ A
  | [], A, hh, _ => ⟨fun f x => by simp [get, Ck.bel], hh⟩
  | m :: r, A, hh, hf => by
    have h1 : (∀ x, (m.at x).bel n) ∧ belsK n r A := by
      have hh : m.belK n (belsK n r A) := hh
      cases m with
      | one q =>
        obtain ⟨h1, h2⟩ := belK_of hh (fun own e z m cc g hq => hf 0 0 own e z m cc g (by simp [get, Fam.at, hq]))
        exact ⟨fun x => by cases x with | zero => exact h1 | succ x => trivial, h2⟩
      | many g =>
        exact ⟨fun x => (belK_of (hh.1 x) (fun own e z m cc g' hq => hf 0 x own e z m cc g' (by simp [get, Fam.at, hq]))).1, hh.2⟩
    obtain ⟨h2, h3⟩ := belsK_of h1.2 (fun f x => by have := hf (f + 1) x; simpa [get] using this)
    refine ⟨fun f x => ?_, h3⟩
    cases f with
    | zero => simpa [get] using h1.1 x
    | succ f => simpa [get] using h2 f x
def nilUp (β : Nm) (N : Nat) : Nm := fun g x => if g < N then β g x else (0, 0, .nil)
theorem nilUp_above (β : Nm) (N : Nat) : NilAbove N (nilUp β N) := fun g x hg => by unfold nilUp; rw [if_neg (by omega)]
theorem nilUp_agree (β : Nm) (N : Nat) : Agree N β (nilUp β N) := fun g x hg => by unfold nilUp; rw [if_pos hg]
theorem Rel.rename (hr : Rel cx β s a w) {β' : Nm} (hag : Agree s.h.length β β') : Rel cx β' s a w := by
  have hlt : ∀ f x, get s.h f x ≠ .no → β f x = β' f x := fun f x h => hag f x (get_lt h)
  refine hr.step (β' := β') (h' := s.h) (Nat.le_refl _) hag ⟨fun f x => ?_, fun f x g y hne ho hk => ?_⟩ hr.wf.h rfl rfl rfl (Nat.le_refl _) (fun _ _ _ => rfl) (fun f x ho => ?_) (fun f x ho => ?_)
  · by_cases h : get s.h f x = .no
    · rw [h]; trivial
    · rw [← hlt f x h]; exact Ck.holds_agree (hr.wf.h f x) hag (hr.ft.ck f x)
  · rw [← hlt f x (Ck.known_ne (Ck.owned_known ho)), ← hlt g y (Ck.known_ne hk)]; exact hr.ft.sep f x g y hne ho hk
  · exact .inl ⟨f, x, ho, by rw [hlt f x (Ck.known_ne (Ck.owned_known ho))]⟩
  · exact .inl ⟨f, x, ho, by rw [hlt f x (Ck.known_ne ho)]⟩
theorem deadB_get {h : List Fam} {f x : Nat} {m : Fam} (hm : h[f]? = some m) (hd : deadB m = true) : get h f x = .no := by
  unfold get
  rw [hm]
  unfold deadB at hd
  cases m with
  | one q => cases q <;> first | (cases x <;> rfl) | cases hd
  | many g => cases hd
theorem laterB_of : ∀ {g : Sg} {σ : List Sg} {h : List Fam}, laterB g σ h = true → ∀ (j : Nat) (q : Sg) (m : Fam), σ[j]? = some q → g.meets q = true → h[j]? = some m → deadB m = true
  | g, [], h, _, j, q, m, hj, _, _ => by simp at hj
  | g, g' :: σ, [], _, j, q, m, _, _, hm => by simp at hm
  | g, g' :: σ, m0 :: h, hl, j, q, m, hj, hme, hm => by
    unfold laterB at hl
    obtain ⟨h1, h2⟩ := Bool.and_eq_true_iff.1 hl
    cases j with
    | zero =>
      simp at hj hm
      subst hj hm
      rw [hme] at h1
      exact h1
    | succ j => exact laterB_of h2 j q m (by simpa using hj) hme (by simpa using hm)
theorem nodupD_of : ∀ {σ : List Sg} {h : List Fam}, nodupD σ h = true → ∀ (i j : Nat) (p q : Sg) (m m' : Fam), i < j → σ[i]? = some p → σ[j]? = some q → p.meets q = true → h[i]? = some m → h[j]? = some m' → deadB m = true ∨ deadB m' = true
  | [], h, _, i, j, p, q, m, m', _, hi, _, _, _, _ => by simp at hi
  | g0 :: σ, [], _, i, j, p, q, m, m', _, _, _, _, hm, _ => by simp at hm
  | g0 :: σ, m0 :: h, hn, i, j, p, q, m, m', hij, hi, hj, hme, hm, hm' => by
    unfold nodupD at hn
    obtain ⟨h1, h2⟩ := Bool.and_eq_true_iff.1 hn
    cases j with
    | zero => omega
    | succ j =>
      cases i with
      | zero =>
        simp at hi hm
        subst hi hm
        cases hd : deadB m0 with
        | true => exact .inl rfl
        | false =>
          rw [hd] at h1
          exact .inr (laterB_of h1 j q m' (by simpa using hj) hme (by simpa using hm'))
      | succ i => exact nodupD_of h2 i j p q m m' (by omega) (by simpa using hi) (by simpa using hj) hme (by simpa using hm) (by simpa using hm')
theorem entH_of (hr0 : Rel cx β s a w) {σ : List Sg} {h' : List Fam} {A : Prop} (h : entH cx.m σ s.h h' A) :
    ∃ β1 β', Rel cx β1 s a w ∧ Agree s.h.length β β1 ∧ NilAbove s.h.length β1 ∧ (∀ f x, β' f x = β1 (key σ 0 f x).1 (key σ 0 f x).2) ∧ (∀ t' : List (Nat × T), (∀ i v, find t' i = some v → v.bel h'.length ∧ a.tmps[i]? = some (v.ren β')) → Rel cx β' ⟨t', h'⟩ a w) ∧ A := by
  have hr : Rel cx (nilUp β s.h.length) s a w := hr0.rename (nilUp_agree β _)
  have hna := nilUp_above β s.h.length
  have hag1 := nilUp_agree β s.h.length
  generalize nilUp β s.h.length = β1 at hr hna hag1
  obtain ⟨hb, h⟩ := ifB_of h
  obtain ⟨hpin, hnd⟩ := Bool.and_eq_true_iff.1 hb
  obtain ⟨hlen, hle, hadn, hsg, h⟩ := lesK_of h
  let β' : Nm := fun f x => β1 (key σ 0 f x).1 (key σ 0 f x).2
  have hβ : ∀ f x, β' f x = β1 (key σ 0 f x).1 (key σ 0 f x).2 := fun _ _ => rfl
  have hmap : ∀ f x, get h' f x ≠ .no → f < σ.length ∧ ((get s.h (key σ 0 f x).1 (key σ 0 f x).2).Le s.h.length ((get h' f x).rk σ 0) ∨ NilCk (get h' f x)) := by
    intro f x hk
    have hf : f < σ.length := by rw [hlen]; exact get_lt hk
    rcases hle f x hf with h1 | ⟨_, _, _, h1⟩
    · exact ⟨hf, .inl h1.2⟩
    · exact ⟨hf, .inr h1⟩
  have hkn : ∀ f x, (get h' f x).known = true → f < σ.length ∧ (get s.h (key σ 0 f x).1 (key σ 0 f x).2).Le s.h.length ((get h' f x).rk σ 0) := by
    intro f x hk
    obtain ⟨hf, hl | hl⟩ := hmap f x (Ck.known_ne hk)
    · exact ⟨hf, hl⟩
    · rw [hl.unknown] at hk; cases hk
  have hft : Fits β' h' w := by
    constructor
    · intro f x
      by_cases hk : get h' f x = .no
      · rw [hk]; trivial
      · obtain ⟨hf, hl | hl⟩ := hmap f x hk
        · rw [hβ]
          exact (rk_holds hβ).1 (hl.holds _ _ _ hna (hr.ft.ck _ _))
        · exact hl.holds _ _ _
    · intro f x f' x' hne ho hk
      obtain ⟨hf, hl⟩ := hkn f x (Ck.owned_known ho)
      obtain ⟨hf', hl'⟩ := hkn f' x' hk
      rw [hβ, hβ]
      refine hr.ft.sep _ _ _ _ (fun e => hne ?_) (hl.owned (by rw [rk_owned]; exact ho)) (hl'.known (by rw [rk_known]; exact hk))
      have e1 : (key σ 0 f x).1 = (key σ 0 f' x').1 := congrArg Prod.fst e
      have e2 : (key σ 0 f x).2 = (key σ 0 f' x').2 := congrArg Prod.snd e
      have hq := List.getElem?_eq_getElem hf
      have hq' := List.getElem?_eq_getElem hf'
      have hfh : f < h'.length := by omega
      have hfh' : f' < h'.length := by omega
      have hkf := Ck.owned_known ho
      by_cases hff : f = f'
      · subst hff
        congr 1
        cases hc : σ[f] with
        | whole g => rw [hc] at hq; rw [key_whole hq, key_whole hq] at e2; exact e2
        | adopt g y n =>
          rw [hc] at hq
          have hgn := hadn f g y n hq
          rw [key_adopt hq, key_adopt hq] at e1 e2
          simp only at e1 e2
          by_cases hx : x = y
          · by_cases hx' : x' = y
            · rw [hx, hx']
            · rw [if_pos hx, if_neg hx'] at e1; exact absurd e1.symm hgn
          · by_cases hx' : x' = y
            · rw [if_neg hx, if_pos hx'] at e1; exact absurd e1 hgn
            · rw [if_neg hx, if_neg hx'] at e2; exact e2
        | mem g y => exact absurd hc ((hsg _ (List.getElem_mem hf)).2 g y)
        | name g => have := (hsg _ (List.getElem_mem hf)).1; rw [hc] at this; cases this
      · exfalso
        have hm : σ[f].meets σ[f'] = true := meets_of (key_uses hsg hq x) (by rw [e1]; exact key_uses hsg hq' x')
        have hm' : σ[f'].meets σ[f] = true := meets_of (by rw [e1]; exact key_uses hsg hq' x') (key_uses hsg hq x)
        have hd : deadB h'[f] = true ∨ deadB h'[f'] = true := by
          rcases Nat.lt_or_gt_of_ne hff with hlt | hlt
          · exact nodupD_of hnd f f' _ _ _ _ hlt hq hq' hm (List.getElem?_eq_getElem hfh) (List.getElem?_eq_getElem hfh')
          · exact (nodupD_of hnd f' f _ _ _ _ hlt hq' hq hm' (List.getElem?_eq_getElem hfh') (List.getElem?_eq_getElem hfh)).symm
        rcases hd with hd | hd
        · rw [deadB_get (List.getElem?_eq_getElem hfh) hd] at hkf; cases hkf
        · rw [deadB_get (List.getElem?_eq_getElem hfh') hd] at hk; cases hk
  obtain ⟨hbel, hA⟩ := belsK_of h (fun f x => hft.flat f x)
  refine ⟨β1, β', hr, hag1, hna, hβ, fun t' ht' => ?_, hA⟩
  refine ⟨hr.dfr, hr.sz, ⟨fun i v hv => (ht' i v hv).2⟩, hft, ⟨fun i v hv => (ht' i v hv).1, hbel⟩, ?_, fun f x hf => ?_, hr.os, hr.tape, hr.out, hr.hs, hr.fr, fun f x ho => ?_, fun f x hk => ?_⟩
  · show cx.m ≤ h'.length
    rw [← hlen]
    by_cases h0 : cx.m = 0
    · omega
    · have := (List.getElem?_eq_some_iff.1 (pinB_of hpin (cx.m - 1) (by omega))).1
      omega
  · have := pinB_of hpin f hf
    rw [Nat.zero_add] at this
    rw [hβ, key_whole this]
    exact hr.pin f x hf
  · obtain ⟨_, hl⟩ := hkn f x (Ck.owned_known ho)
    rw [hβ]
    exact hr.ow _ _ (hl.owned (by rw [rk_owned]; exact ho))
  · obtain ⟨_, hl⟩ := hkn f x hk
    rw [hβ]
    exact hr.kn _ _ (hl.known (by rw [rk_known]; exact hk))
theorem entT_of {N : Nat} {t : List (Nat × T)} {σ0 : List Sg} {n : Nat} : ∀ {t' : List (Nat × T)} {A : Prop}, entT N t σ0 n t' A →
    (∀ i v, find t' i = some v → v.bel n ∧ ∃ u, find t i = some u ∧ ∀ β, NilAbove N β → u.ren β = (v.rk σ0 0).ren β) ∧ A
  | [], A, h => ⟨fun i v hv => (by cases hv), h⟩
  | (j, v) :: r, A, h => by
    obtain ⟨h1, h2⟩ := ifB_of h
    obtain ⟨u, hu, h3⟩ := lk_of h2
    obtain ⟨h4, h5⟩ := eqT_of h3
    obtain ⟨h6, h7⟩ := entT_of h5
    refine ⟨fun i v' hv' => ?_, h7⟩
    unfold find at hv'
    split at hv'
    · rename_i he
      subst he
      cases hv'
      exact ⟨T.belB_bel h1, u, hu, h4⟩
    · exact h6 i v' hv'
theorem entP_of (hr : Rel cx β s a w) {σ : List Sg} {s' : S} (h : entP cx.m σ s s') : ∃ β', Rel cx β' s' a w := by
  obtain ⟨β1, β', hr1, _, hna, hβ, hrel, hT⟩ := entH_of hr h
  obtain ⟨ht, _⟩ := entT_of hT
  refine ⟨β', hrel s'.t fun i v hv => ?_⟩
  obtain ⟨h1, u, hu, he⟩ := ht i v hv
  exact ⟨h1, by rw [hr1.tm.tm i u hu, he β1 hna, rk_T hβ]⟩
end Go.X
set_option linter.constructorNameAsVariable false
set_option linter.unusedVariables false
namespace Go.X
variable {cx : Cx} {β : Nm} {s : S} {a : Act} {w : World} {P : Program} {tb : Tb}
def setF : List Fam → Nat → Fam → Option (List Fam)
  | [], _, _ => none
  | _ :: l, 0, m => some (m :: l)
  | a :: l, g + 1, m => (setF l g m).map (a :: ·)
def updF : List Fam → Nat → Nat → Ck → Option (List Fam)
  | [], _, _, _ => none
  | .one _ :: l, 0, 0, ck => some (.one ck :: l)
  | .one _ :: _, 0, _ + 1, _ => none
  | .many g :: l, 0, x, ck => some (.many (fun y => if y = x then ck else g y) :: l)
  | a :: l, f + 1, x, ck => (updF l f x ck).map (a :: ·)
def Fam.zeroth : Fam → Ck
  | .one q => q
  | .many g => g 0
def givesF (σ0 : List Sg) (N : Nat) : List Fam → List Sg → List Fam → Option (List Fam)
  | H, [], h' => some (H ++ h'.map (Fam.rk σ0 N))
  | H, .whole g :: r, m :: h' => (setF H g (m.rk σ0 N)).bind fun H' => givesF σ0 N H' r h'
  | H, .mem g y :: r, m :: h' => (updF H g y (m.zeroth.rk σ0 N)).bind fun H' => givesF σ0 N H' r h'
  | H, .name _ :: r, _ :: h' => givesF σ0 N H r h'
  | _, .adopt _ _ _ :: _, _ :: _ => none
  | _, _ :: _, [] => none
theorem setF_of : ∀ {l : List Fam} {g : Nat} {m : Fam} {l' : List Fam} {K : List Fam → Prop}, setF l g m = some l' → K l' → gives.setK l g m K
  | [], _, _, _, _, h, _ => by simp [setF] at h
  | a :: l, 0, m, l', K, h, hk => by simp only [setF, Option.some.injEq] at h; subst h; exact hk
  | a :: l, g + 1, m, l', K, h, hk => by
    simp only [setF, Option.map_eq_some_iff] at h
    obtain ⟨q, hq, rfl⟩ := h
    exact setF_of (K := fun l' => K (a :: l')) hq hk
theorem updF_of : ∀ {l : List Fam} {f x : Nat} {ck : Ck} {l' : List Fam} {K : List Fam → Prop}, updF l f x ck = some l' → K l' → updK l f x ck K
  | [], _, _, _, _, _, h, _ => by simp [updF] at h
  | .one q :: l, 0, 0, ck, l', K, h, hk => by simp only [updF, Option.some.injEq] at h; subst h; exact hk
  | .one q :: l, 0, x + 1, ck, l', K, h, hk => by simp [updF] at h
  | .many g :: l, 0, x, ck, l', K, h, hk => by simp only [updF, Option.some.injEq] at h; subst h; exact hk
  | .one q :: l, f + 1, x, ck, l', K, h, hk => by
    simp only [updF, Option.map_eq_some_iff] at h
    obtain ⟨q, hq, rfl⟩ := h
    exact updF_of (K := fun l' => K (_ :: l')) hq hk
  | .many q :: l, f + 1, x, ck, l', K, h, hk => by
    simp only [updF, Option.map_eq_some_iff] at h
    obtain ⟨q, hq, rfl⟩ := h
    exact updF_of (K := fun l' => K (_ :: l')) hq hk
theorem givesF_of {σ0 : List Sg} {N : Nat} : ∀ {σ : List Sg} {H h' : List Fam} {H' : List Fam} {K : List Fam → Prop}, givesF σ0 N H σ h' = some H' → K H' → gives σ0 N H σ h' K
  | [], H, h', H', K, h, hk => by simp only [givesF, Option.some.injEq] at h; subst h; unfold gives; exact hk
  | .whole g :: r, H, [], H', K, h, hk => by simp [givesF] at h
  | .mem g y :: r, H, [], H', K, h, hk => by simp [givesF] at h
  | .name g :: r, H, [], H', K, h, hk => by simp [givesF] at h
  | .adopt a b c :: r, H, [], H', K, h, hk => by simp [givesF] at h
  | .adopt a b c :: r, H, _ :: _, H', K, h, hk => by simp [givesF] at h
  | .name g :: r, H, m :: h', H', K, h, hk => by
    simp only [givesF] at h
    unfold gives
    exact givesF_of h hk
  | .whole g :: r, H, m :: h', H', K, h, hk => by
    simp only [givesF, Option.bind_eq_some_iff] at h
    obtain ⟨H1, h1, h2⟩ := h
    unfold gives
    exact setF_of h1 (givesF_of h2 hk)
  | .mem g y :: r, H, m :: h', H', K, h, hk => by
    simp only [givesF, Option.bind_eq_some_iff] at h
    obtain ⟨H1, h1, h2⟩ := h
    unfold gives
    cases m with
    | one q => exact updF_of h1 (givesF_of h2 hk)
    | many g => exact ManyK.here (updF_of h1 (givesF_of h2 hk))
def Fam.noneK (m : Fam) (A : Prop) : Prop :=
  match m with
  | .one q => match q with
    | .no => A
    | _ => False
  | .many g => (∀ x, g x = .no) ∧ A
theorem noneK_of {m : Fam} {A : Prop} (h : m.noneK A) : (∀ x, m.at x = .no) ∧ A := by
  unfold Fam.noneK at h
  split at h
  · split at h
    · exact ⟨fun x => by cases x <;> rfl, h⟩
    · exact h.elim
  · exact h
def leS (N : Nat) (H : List Fam) (σ0 : List Sg) (N1 : Nat) : List Sg → List Fam → Prop → Prop
  | [], [], A => A
  | .whole g :: r, m :: h, A => nth H g fun M => M.leK N (m.rk σ0 N1) (leS N H σ0 N1 r h A)
  | .mem g y :: r, .one q :: h, A => nth H g fun M => M.atK y fun ck => ck.leK N (q.rk σ0 N1) (leS N H σ0 N1 r h A)
  | .name g :: r, m :: h, A => nth H g fun _ => m.noneK (leS N H σ0 N1 r h A)
  | _, _, _ => False
def argsK (N : Nat) : List T → List T → Prop → Prop
  | [], [], A => A
  | u :: l, v :: m, A => u.eqK N v (argsK N l m A)
  | _, _, _ => False
def nilB : Fam → Bool
  | .one q => match q with
    | .no => true
    | .row _ _ _ _ n c _ => Nat.beq n 0 && Nat.beq c 0
    | _ => false
  | .many _ => false
def RetG (σ : List Sg) (H h' : List Fam) (v : T) (K : T → List Fam → Prop) : Prop := gives σ H.length H σ h' fun H' => K (v.rk σ H.length) H'
structure CallK (P : Program) (F : Nat) (args : List T) (H : List Fam) (K : T → List Fam → Prop) : Prop where
  ex : ∃ (σ : List Sg) (nl : List Fam) (args0 : List T) (h0 : List Fam) (Q : T → List Fam → Prop) (H2 : List Fam), Ctr P F args0 h0 Q ∧ apart σ = true ∧ nl.all nilB = true ∧
    givesF σ (H ++ nl).length (H ++ nl) σ h0 = some H2 ∧ leS H.length (H ++ nl) σ (H ++ nl).length σ h0 (belsK (H ++ nl).length (h0.map (Fam.rk σ (H ++ nl).length)) (argsK H.length args (args0.map (T.rk σ (H ++ nl).length)) True)) ∧
    ∀ v h', Q v h' → capsP h' → RetG σ H2 h' v K
theorem CallK.mk2 {F : Nat} {args : List T} {H : List Fam} {K : T → List Fam → Prop} {σ : List Sg} {nl : List Fam} {args0 : List T} {h0 : List Fam} {Q : T → List Fam → Prop} {H2 : List Fam} (hc : Ctr P F args0 h0 Q) (hap : apart σ = true) (hnl : nl.all nilB = true)
    (hH : givesF σ (H ++ nl).length (H ++ nl) σ h0 = some H2) (hle : leS H.length (H ++ nl) σ (H ++ nl).length σ h0 (belsK (H ++ nl).length (h0.map (Fam.rk σ (H ++ nl).length)) (argsK H.length args (args0.map (T.rk σ (H ++ nl).length)) True)))
    (hk : ∀ v h', Q v h' → capsP h' → RetG σ H2 h' v K) : CallK P F args H K := ⟨σ, nl, args0, h0, Q, H2, hc, hap, hnl, hH, hle, hk⟩
theorem ret_mk {σ : List Sg} {H h' : List Fam} {v : T} {K : T → List Fam → Prop} {H' : List Fam} {v' : T} (h : givesF σ H.length H σ h' = some H') (hv : v.rk σ H.length = v') (hk : K v' H') : RetG σ H h' v K := by
  unfold RetG
  rw [hv]
  exact givesF_of (K := fun H' => K v' H') h hk
theorem leS_of {N : Nat} {H : List Fam} {σ0 : List Sg} {N1 : Nat} : ∀ {σ : List Sg} {h : List Fam} {A : Prop}, leS N H σ0 N1 σ h A →
    σ.length = h.length ∧ (∀ f g : Nat, σ[f]? = some (.whole g) → g < H.length ∧ ∀ y, (get H g y).Le N ((get h f y).rk σ0 N1)) ∧
      (∀ f g y : Nat, σ[f]? = some (.mem g y) → g < H.length ∧ (get H g y).Le N ((get h f 0).rk σ0 N1) ∧ ∀ x, x ≠ 0 → get h f x = .no) ∧
      (∀ f g : Nat, σ[f]? = some (.name g) → g < H.length ∧ ∀ x, get h f x = .no) ∧ A
  | [], [], A, h => ⟨rfl, by simp, by simp, by simp, h⟩
  | [], _ :: _, A, h => h.elim
  | .whole g :: r, [], A, h => h.elim
  | .mem g y :: r, [], A, h => h.elim
  | .mem g y :: r, .many _ :: _, A, h => h.elim
  | .name g :: r, [], A, h => h.elim
  | .adopt _ _ _ :: r, l, A, h => by cases l <;> exact h.elim
  | .name g :: r, m :: h, A, hh => by
    obtain ⟨M, hM, h1⟩ := nth_of hh
    obtain ⟨h2, h3⟩ := noneK_of h1
    obtain ⟨i1, i2, i3, i5, i4⟩ := leS_of h3
    refine ⟨by simp [i1], fun f g' hf => ?_, fun f g' y' hf => ?_, fun f g' hf => ?_, i4⟩
    · cases f with
      | zero => simp at hf
      | succ f => simpa [get] using i2 f g' (by simpa using hf)
    · cases f with
      | zero => simp at hf
      | succ f => simpa [get] using i3 f g' y' (by simpa using hf)
    · cases f with
      | zero =>
        simp at hf
        subst hf
        exact ⟨(List.getElem?_eq_some_iff.1 hM).1, fun x => by simpa [get] using h2 x⟩
      | succ f => simpa [get] using i5 f g' (by simpa using hf)
  | .whole g :: r, m :: h, A, hh => by
    obtain ⟨M, hM, h1⟩ := nth_of hh
    obtain ⟨h2, h3⟩ := famLe_of h1
    obtain ⟨i1, i2, i3, i5, i4⟩ := leS_of h3
    refine ⟨by simp [i1], fun f g' hf => ?_, fun f g' y' hf => ?_, fun f g' hf => (by cases f with | zero => (simp at hf) | succ f => simpa [get] using i5 f g' (by simpa using hf)), i4⟩
    · cases f with
      | zero =>
        simp at hf
        subst hf
        refine ⟨(List.getElem?_eq_some_iff.1 hM).1, fun y => ?_⟩
        have := h2 y
        rw [rk_at] at this
        simpa only [get, hM, List.getElem?_cons_zero] using this
      | succ f => simpa [get] using i2 f g' (by simpa using hf)
    · cases f with
      | zero => simp at hf
      | succ f => simpa [get] using i3 f g' y' (by simpa using hf)
  | .mem g y :: r, .one q :: h, A, hh => by
    obtain ⟨M, hM, h1⟩ := nth_of hh
    have h1' : (M.at y).leK N (q.rk σ0 N1) (leS N H σ0 N1 r h A) := by
      unfold Fam.atK at h1
      cases M with
      | one q' => cases y with
        | zero => exact h1
        | succ y => exact h1.elim
      | many g => exact h1.of
    obtain ⟨h2, h3⟩ := leK_of h1'
    obtain ⟨i1, i2, i3, i5, i4⟩ := leS_of h3
    refine ⟨by simp [i1], fun f g' hf => ?_, fun f g' y' hf => ?_, fun f g' hf => (by cases f with | zero => (simp at hf) | succ f => simpa [get] using i5 f g' (by simpa using hf)), i4⟩
    · cases f with
      | zero => simp at hf
      | succ f => simpa [get] using i2 f g' (by simpa using hf)
    · cases f with
      | zero =>
        simp at hf
        obtain ⟨rfl, rfl⟩ := hf
        refine ⟨(List.getElem?_eq_some_iff.1 hM).1, ?_, fun x hx => ?_⟩
        · rw [show get (Fam.one q :: h) 0 0 = q from rfl]
          simpa only [get, hM] using h2
        · cases x with
          | zero => exact absurd rfl hx
          | succ x => rfl
      | succ f => simpa [get] using i3 f g' y' (by simpa using hf)
theorem argsK_of {N : Nat} : ∀ {l m : List T} {A : Prop}, argsK N l m A → (∀ β, NilAbove N β → l.map (T.ren β) = m.map (T.ren β)) ∧ A
  | [], [], A, h => ⟨fun _ _ => rfl, h⟩
  | [], _ :: _, A, h => h.elim
  | _ :: _, [], A, h => h.elim
  | u :: l, v :: m, A, h => by
    obtain ⟨h1, h2⟩ := eqT_of h
    obtain ⟨h3, h4⟩ := argsK_of h2
    exact ⟨fun β hβ => by simp [h1 β hβ, h3 β hβ], h4⟩
theorem nilB_at {m : Fam} (h : nilB m = true) (x : Nat) : NilCk (m.at x) := by
  unfold nilB at h
  cases m with
  | one q =>
    cases q with
    | no => cases x <;> exact .inl rfl
    | cells w l => cases h
    | map w k ck n f => cases h
    | iter m y ck seen => cases h
    | row w k e z n c f =>
      obtain ⟨h1, h2⟩ := Bool.and_eq_true_iff.1 h
      have h1 := Nat.eq_of_beq_eq_true h1
      have h2 := Nat.eq_of_beq_eq_true h2
      subst h1 h2
      cases x with
      | zero => exact .inr ⟨_, _, _, _, _, rfl⟩
      | succ x => exact .inl rfl
  | many g => cases h
theorem Rel.weaken (hr : Rel cx β s a w) {H2 : List Fam} {N : Nat} (hna : NilAbove N β) (hlen : s.h.length ≤ H2.length)
    (h : ∀ g y, get H2 g y = get s.h g y ∨ ((get s.h g y).Le N (get H2 g y) ∧ (get H2 g y).bel H2.length) ∨ NilCk (get H2 g y)) : Rel cx β ⟨s.t, H2⟩ a w := by
  have hk : ∀ g y, (get H2 g y).known = true → (get s.h g y).known = true := by
    intro g y hk
    rcases h g y with e | ⟨l, _⟩ | e
    · rw [← e]; exact hk
    · exact l.known hk
    · rw [e.unknown] at hk; cases hk
  have ho : ∀ g y, (get H2 g y).owned = true → (get s.h g y).owned = true := by
    intro g y hk
    rcases h g y with e | ⟨l, _⟩ | e
    · rw [← e]; exact hk
    · exact l.owned hk
    · rw [e.unowned] at hk; cases hk
  refine ⟨hr.dfr, hr.sz, ⟨hr.tm.tm⟩, ⟨fun g y => ?_, fun f x g y hne hof hkg => hr.ft.sep f x g y hne (ho f x hof) (hk g y hkg)⟩, ⟨fun i v hv => T.bel_mono (hr.wf.t i v hv) hlen, fun g y => ?_⟩, Nat.le_trans hr.ml hlen, hr.pin, hr.os, hr.tape, hr.out, hr.hs, hr.fr, fun f x hof => hr.ow f x (ho f x hof), fun f x hkf => hr.kn f x (hk f x hkf)⟩
  · rcases h g y with e | ⟨l, _⟩ | e
    · rw [e]; exact hr.ft.ck g y
    · exact l.holds _ _ _ hna (hr.ft.ck g y)
    · exact e.holds _ _ _
  · rcases h g y with e | ⟨_, b⟩ | e
    · rw [e]; exact Ck.bel_mono (hr.wf.h g y) hlen
    · exact b
    · rcases e with e | ⟨own, k, ee, z, f, e⟩
      · rw [e]; trivial
      · rw [e]; intro i hi; omega
theorem callK_of (hr0 : Rel cx β s a w) {F : Nat} {args : List T} {K : T → List Fam → Prop} (hc : CallK P F args s.h K) (hargb : ∀ v ∈ args, v.bel s.h.length) :
    Calls P F (args.map (T.ren β)).toArray w fun e w' => ∃ v h' β', e = .returned (v.ren β') ∧ K v h' ∧ v.bel h'.length ∧ Agree s.h.length β β' ∧ s.h.length ≤ h'.length ∧ Rel cx β' ⟨s.t, h'⟩ a w' := by
  obtain ⟨σ, nl, args0, h0, Q, H2, sp, hap, hnl, hH, hle, hK⟩ := hc.ex
  obtain ⟨hlen, hwh, hme, hnm, hb⟩ := leS_of hle
  have hr : Rel cx (nilUp β s.h.length) s a w := hr0.rename (nilUp_agree β _)
  have hna := nilUp_above β s.h.length
  have hag1 := nilUp_agree β s.h.length
  generalize nilUp β s.h.length = β1 at hr hna hag1
  have hfam : ∀ q ∈ σ, q.fam < (s.h ++ nl).length := by
    intro q hq
    obtain ⟨j, hj⟩ := List.getElem?_of_mem hq
    cases q with
    | whole g => exact (hwh j g hj).1
    | mem g y => exact (hme j g y hj).1
    | name g => exact (hnm j g hj).1
    | adopt a b c => exact absurd hj (apart_noadopt hap _ _ _ _)
  obtain ⟨H', hHe, g1, g2, g3, g4, g5, g6⟩ := gives_of hap hfam (givesF_of (K := fun H' => H' = H2) hH rfl)
  subst hHe
  have hl2 : H'.length = (s.h ++ nl).length := by omega
  have hget1 : ∀ g y, get (s.h ++ nl) g y = get s.h g y ∨ NilCk (get (s.h ++ nl) g y) := by
    intro g y
    unfold get
    by_cases hg : g < s.h.length
    · left; rw [List.getElem?_append_left hg]
    · right
      rw [List.getElem?_append_right (by omega)]
      cases hm : nl[g - s.h.length]? with
      | none => exact .inl rfl
      | some m => exact nilB_at (List.all_eq_true.1 hnl m (List.mem_of_getElem? hm)) y
  have hr1 : Rel cx β1 ⟨s.t, s.h ++ nl⟩ a w := hr.weaken hna (by simp) fun g y => by
    rcases hget1 g y with e | e
    · exact .inl e
    · exact .inr (.inr e)
  have hflat0 : ∀ f x own e z m cc g, get (h0.map (Fam.rk σ (s.h ++ nl).length)) f x = .row own false e z m cc g → ∀ i, i < m → ∀ v ∈ g i, v.flat = true := by
    intro f x own e z m cc g hg
    have hg' : (get h0 f x).rk σ (s.h ++ nl).length = .row own false e z m cc g := by
      rw [← hg]
      unfold get
      rw [List.getElem?_map]
      cases h0[f]? with
      | none => rfl
      | some m => exact (rk_at m x).symm
    have hf : f < h0.length := get_lt (by intro e2; rw [e2] at hg'; cases hg')
    rw [← hlen] at hf
    have hq := List.getElem?_eq_getElem hf
    have hh : ((get h0 f x).rk σ (s.h ++ nl).length).holds β1 w (0, 0, .nil) ∨ ∃ A, ((get h0 f x).rk σ (s.h ++ nl).length).holds β1 w A := by
      cases hc : σ[f] with
      | whole g0 =>
        rw [hc] at hq
        exact .inr ⟨_, ((hwh f g0 hq).2 x).holds _ _ _ hna (hr1.ft.ck g0 x)⟩
      | mem g0 y0 =>
        rw [hc] at hq
        obtain ⟨_, h2, h3⟩ := hme f g0 y0 hq
        have hx : x = 0 := by
          by_cases hx : x = 0
          · exact hx
          · exfalso
            rw [h3 x hx] at hg'
            cases hg'
        subst hx
        exact .inr ⟨_, h2.holds _ _ _ hna (hr1.ft.ck g0 y0)⟩
      | name g0 =>
        rw [hc] at hq
        rw [(hnm f g0 hq).2 x] at hg'
        cases hg'
      | adopt a b c => rw [hc] at hq; exact absurd hq (apart_noadopt hap _ _ _ _)
    rcases hh with hh | ⟨A, hh⟩
    · rw [hg'] at hh; exact hh.2.2.1 rfl
    · rw [hg'] at hh; exact hh.2.2.1 rfl
  obtain ⟨hbel, hargs⟩ := belsK_of hb hflat0
  obtain ⟨heq, _⟩ := argsK_of hargs
  have hget0 : ∀ f x, get (h0.map (Fam.rk σ (s.h ++ nl).length)) f x = (get h0 f x).rk σ (s.h ++ nl).length := by
    intro f x
    unfold get
    rw [List.getElem?_map]
    cases h0[f]? with
    | none => rfl
    | some m => exact rk_at m x
  have hr2 : Rel cx β1 ⟨s.t, H'⟩ a w := hr1.weaken hna (by simp only; omega) fun g y => by
    by_cases hg : g < (s.h ++ nl).length
    · by_cases ht : Tgt σ g y
      · right; left
        obtain ⟨f, hf | hf⟩ := ht
        · rw [g3 f g hf y]
          exact ⟨(hwh f g hf).2 y, by rw [hl2, ← hget0]; exact hbel f y⟩
        · rw [g4 f g y hf]
          exact ⟨(hme f g y hf).2.1, by rw [hl2, ← hget0]; exact hbel f 0⟩
      · exact .inl (g5 g y hg ht)
    · left
      have : ∀ (l : List Fam), l.length ≤ g → get l g y = .no := by
        intro l hl
        unfold get
        rw [List.getElem?_eq_none hl]
      rw [this H' (by omega), this _ (by simp only; omega)]
  have hmain := callK_core (s := ⟨s.t, H'⟩) hr2 (K := K) sp hap hlen
    (fun f g hf => ⟨by have := (hwh f g hf).1; simp only; omega, fun y => by simp only; rw [hl2]; exact g3 f g hf y⟩)
    (fun f g y hf => ⟨by have := (hme f g y hf).1; simp only; omega, by simp only; rw [hl2]; exact g4 f g y hf, (hme f g y hf).2.2⟩)
    (fun f g hf => ⟨by have := (hnm f g hf).1; simp only; omega, (hnm f g hf).2⟩)
    (fun v h' hQ hcp => hK v h' hQ hcp)
  have eargs : (args.map (T.ren β)) = ((args0.map (T.rk σ H'.length)).map (T.ren β1)) := by
    rw [hl2, ← heq β1 hna]
    exact List.map_congr_left fun v hv => T.ren_agree (hargb v hv) hag1
  rw [eargs]
  refine hmain.mono fun e w' hh => ?_
  obtain ⟨v, h', β', q1, q2, q3, q4, q5, q6⟩ := hh
  simp only at q4 q5
  have hle2 : s.h.length ≤ H'.length := by rw [hl2]; simp
  exact ⟨v, h', β', q1, q2, q3, fun f x hf => (hag1 f x hf).trans (q4 f x (by omega)), by omega, q6⟩
end Go.X
set_option linter.constructorNameAsVariable false
set_option linter.unusedVariables false
namespace Go.X
def xop (P : Program) (tb : Tb) (N : Nat) (s : S) (o : Oper) (K : S → Prop) : Prop :=
  match s with
  | ⟨t0, h0⟩ => match o.op with
    | .store t x v => match o.dst with
      | none => evC ⟨t0, h0⟩ x fun ad => ev ⟨t0, h0⟩ v fun v => storeK tb h0 t ad v fun h' => K ⟨t0, h'⟩
      | some _ => False
    | .mapUpdate t m k v => match o.dst with
      | none => evC ⟨t0, h0⟩ m fun m => evC ⟨t0, h0⟩ k fun k => ev ⟨t0, h0⟩ v fun v => mapSetK tb h0 t m k v fun h' => K ⟨t0, h'⟩
      | some _ => False
    | .insert t m k v => match o.dst with
      | none => evC ⟨t0, h0⟩ m fun m => evC ⟨t0, h0⟩ k fun k => ev ⟨t0, h0⟩ v fun v => mapSetK tb h0 t m k v fun h' => K ⟨t0, h'⟩
      | some _ => False
    | .call { callee := .value f, args, .. } => evC ⟨t0, h0⟩ f fun fv => match fv with
      | .fn F cs => evs ⟨t0, h0⟩ args.toList fun vs => CallK P F (vs ++ cs.map fun q => T.c (.p q.1 q.2.1 q.2.2)) h0 fun v h' => putK N t0 h' o.dst v K
      | .bf F fs => evs ⟨t0, h0⟩ args.toList fun vs => CallK P F (fs.map (fun l => T.a (l.map fun q => C.i q.1 q.2)) ++ vs) h0 fun v h' => putK N t0 h' o.dst v K
      | _ => False
    | op => xval tb ⟨t0, h0⟩ op fun v h' => putK N t0 h' o.dst v K
def skipK (N : Nat) (s : S) (dst : Option Nat) (K : S → Prop) : Prop :=
  match s with
  | ⟨t0, h0⟩ => putK N t0 h0 dst (.t []) K
def guardK (ops : List Oper) (s : S) (g : Option (Nat × Bool)) (W X : S → Prop) : Prop :=
  match g with
  | none => W s
  | some (j, wd) => nth ops j fun oj => match oj.dst with
    | none => False
    | some d => match s with
      | ⟨t0, h0⟩ => lk t0 d fun v => match v with
        | .c .tt => match wd with
          | true => W ⟨t0, h0⟩
          | false => X ⟨t0, h0⟩
        | .c .ff => match wd with
          | false => W ⟨t0, h0⟩
          | true => X ⟨t0, h0⟩
        | .c (.b b) => (b = true → match wd with
            | true => W ⟨(d, .c .tt) :: t0, h0⟩
            | false => X ⟨(d, .c .tt) :: t0, h0⟩) ∧
          (b = false → match wd with
            | false => W ⟨(d, .c .ff) :: t0, h0⟩
            | true => X ⟨(d, .c .ff) :: t0, h0⟩)
        | .t _ => X ⟨t0, h0⟩
        | _ => False
def gop (P : Program) (tb : Tb) (N : Nat) (ops : List Oper) (s : S) (o : Oper) (K : S → Prop) : Prop :=
  guardK ops s o.guard (fun s => xop P tb N s o K) (fun s => skipK N s o.dst K)
def xops (P : Program) (tb : Tb) (N : Nat) (ops : List Oper) (l : List Oper) : S → (S → Prop) → Prop :=
  List.rec (motive := fun _ => S → (S → Prop) → Prop) (fun s K => K s) (fun o _ ih s K => gop P tb N ops s o fun s' => ih s' K) l
def preds (o : Oper) : Nat := o.after.toList.foldl (fun m e => match Region.binds .any e with | true => Nat.lor m (Nat.pow 2 e.on) | false => m) 0
def bit (L i : Nat) : Bool := !Nat.beq (Nat.land (Nat.shiftRight L i) 1) 0
def rdy (L i : Nat) (o : Oper) : Bool := !bit L i && Nat.beq (Nat.land (preds o) L) (preds o)
def pureB (o : Oper) : Bool :=
  match o.op with
  | .move _ | .assign _ | .pick _ _ _ | .load _ _ | .nilCheck _ | .binOp _ _ _ _ _ | .unOp _ _ _ | .convert _ _ _ | .makeFunc _ _ _ | .slice _ _ _ _ _ | .fieldAddr _ _ _ | .field _ _ _ | .indexAddr _ _ _ | .index _ _ _ | .extract _ _ => true
  | .call { callee := .builtin b, .. } => match b with
    | .len | .max | .min => true
    | _ => false
  | _ => false
def firstPure (L : Nat) : List Oper → Nat → Option (Nat × Oper)
  | [], _ => none
  | o :: r, i => match pureB o && rdy L i o with
    | true => some (i, o)
    | false => firstPure L r (i + 1)
def readyI (L : Nat) : List Oper → Nat → List (Nat × Oper)
  | [], _ => []
  | o :: r, i => match rdy L i o with
    | true => (i, o) :: readyI L r (i + 1)
    | false => readyI L r (i + 1)
def heldK (s : S) (op : Op) (i : Nat) (pend : List (Nat × Nat × Nat)) (K : List (Nat × Nat × Nat) → Prop) : Prop :=
  match op with
  | .load _ x => evC s x fun v => match v with
    | .p f y _ => K ((i, f, y) :: pend)
    | .pe f y _ _ _ => K ((i, f, y) :: pend)
    | _ => False
  | .call { callee := .builtin .len, args, .. } => match args.toList with
    | [x] => evC s x fun v => match v with
      | .mp f y => K ((i, f, y) :: pend)
      | _ => K pend
    | _ => K pend
  | .convert _ _ x => evC s x fun v => match v with
    | .sl f y _ _ _ _ => K ((i, f, y) :: pend)
    | _ => K pend
  | _ => K pend
def liftP (o : Oper) (i : Nat) : List (Nat × Nat × Nat) → List (Nat × Nat × Nat)
  | [] => []
  | (k, f, x) :: l => match bit (preds o) k with
    | true => (i, f, x) :: liftP o i l
    | false => (k, f, x) :: liftP o i l
def keepK (s s' : S) (o : Oper) (l : List (Nat × Nat × Nat)) : (List (Nat × Nat × Nat) → Prop) → Prop :=
  List.rec (motive := fun _ => (List (Nat × Nat × Nat) → Prop) → Prop) (fun K => K [])
    (fun q _ ih K => match q with
      | (i, f, x) => match bit (preds o) i with
        | true => ih K
        | false => getK s.h f x fun q => getK s'.h f x fun q' => q = q' ∧ ih fun r' => K ((i, f, x) :: r')) l
theorem keepK_cons {s s' : S} {o : Oper} {i f x : Nat} {r : List (Nat × Nat × Nat)} {K : List (Nat × Nat × Nat) → Prop} : keepK s s' o ((i, f, x) :: r) K = (match bit (preds o) i with
    | true => keepK s s' o r K
    | false => getK s.h f x fun q => getK s'.h f x fun q' => q = q' ∧ keepK s s' o r fun r' => K ((i, f, x) :: r')) := rfl
def branch (step : Nat → Oper → Prop) (l : List (Nat × Oper)) : Prop :=
  List.rec (motive := fun _ => Prop) True (fun q r ih => match q with
    | (i, o) => match r with
      | [] => step i o
      | _ :: _ => Both (step i o) ih) l
def xdraw (P : Program) (tb : Tb) (N : Nat) (ops : List Oper) (n : Nat) : Nat → List (Nat × Nat × Nat) → S → (S → Prop) → Prop :=
  Nat.rec (motive := fun _ => Nat → List (Nat × Nat × Nat) → S → (S → Prop) → Prop)
    (fun L _ s K => match readyI L ops 0 with
      | [] => K s
      | _ :: _ => False)
    (fun _ ih L pend s K => match firstPure L ops 0 with
      | some (i, o) => litK i fun i => litK (Nat.lor L (Nat.pow 2 i)) fun L' => guardK ops s o.guard
          (fun s => match s with
            | ⟨t0, h0⟩ => heldK ⟨t0, h0⟩ o.op i (liftP o i pend) fun pend' => xpure tb ⟨t0, h0⟩ o.op fun v => putK N t0 h0 o.dst v fun s' => ih L' pend' s' K)
          (fun s => skipK N s o.dst fun s' => ih L' (liftP o i pend) s' K)
      | none => match readyI L ops 0 with
        | [] => K s
        | q :: l => branch (fun i o => litK i fun i => litK (Nat.lor L (Nat.pow 2 i)) fun L' => gop P tb N ops s o fun s' => keepK s s' o pend fun pend' => ih L' pend' s' K) (q :: l)) n
theorem xdraw_zero {P : Program} {tb : Tb} {N : Nat} {ops : List Oper} {L : Nat} {pend : List (Nat × Nat × Nat)} {s : S} {K : S → Prop} : xdraw P tb N ops 0 L pend s K = (match readyI L ops 0 with
  | [] => K s
  | _ :: _ => False) := rfl
theorem xdraw_succ {P : Program} {tb : Tb} {N : Nat} {ops : List Oper} {n L : Nat} {pend : List (Nat × Nat × Nat)} {s : S} {K : S → Prop} : xdraw P tb N ops (n + 1) L pend s K = (match firstPure L ops 0 with
  | some (i, o) => guardK ops s o.guard
      (fun s => match s with
        | ⟨t0, h0⟩ => heldK ⟨t0, h0⟩ o.op i (liftP o i pend) fun pend' => xpure tb ⟨t0, h0⟩ o.op fun v => putK N t0 h0 o.dst v fun s' => xdraw P tb N ops n (Nat.lor L (Nat.pow 2 i)) pend' s' K)
      (fun s => skipK N s o.dst fun s' => xdraw P tb N ops n (Nat.lor L (Nat.pow 2 i)) (liftP o i pend) s' K)
  | none => match readyI L ops 0 with
    | [] => K s
    | q :: l => branch (fun i o => gop P tb N ops s o fun s' => keepK s s' o pend fun pend' => xdraw P tb N ops n (Nat.lor L (Nat.pow 2 i)) pend' s' K) (q :: l)) := by
  unfold xdraw
  simp only [litK_eq]
def sepAll (arr : Array Oper) : Bool :=
  (List.range arr.size).all fun i => (List.range arr.size).all fun j =>
    Nat.beq i j || (match arr[i]?, arr[j]? with
      | some oi, some oj => bit (preds oj) i || bit (preds oi) j || oi.apart arr oj
      | _, _ => true)
def okDraw (arr : Array Oper) : Bool := Region.noSelect arr && sepAll arr
section
variable {P : Program} {ops : Array Oper} {Q : Exit → Act → World → Prop} {md : Region.Mode}
def waits (md : Region.Mode) (ops : Array Oper) (j i : Nat) : Bool := ((ops[j]?).map fun o => o.after.any fun e => Region.binds md e && e.on == i).getD false
def wpR (P : Program) (md : Region.Mode) (ops : Array Oper) (Q : Exit → Act → World → Prop) : Nat → Array Bool → List (Nat × (World → Prop)) → Act → World → Prop
  | 0, L, _, a, w => Region.ready md ops L = [] ∧ Q .normal a w
  | n + 1, L, R, a, w => (Region.ready md ops L = [] → Q .normal a w) ∧
    ∀ j ∈ Region.ready md ops L, wpOp P ops Q j (fun a' w' => (∀ r ∈ R, waits md ops j r.1 = false → r.2 w') ∧ wpR P md ops Q n (L.setIfInBounds j true) (R.filter fun r => !waits md ops j r.1) a' w') a w
theorem wpR_sound : ∀ (n : Nat) (L : Array Bool) (R : List (Nat × (World → Prop))) (a : Act) (w : World), wpR P md ops Q n L R a w → wpAny P md ops Q n L a w
  | 0, _, _, _, _, h => h
  | n + 1, _, _, _, _, h => ⟨h.1, fun j hj => wpOp_mono (fun a' w' h' => wpR_sound n _ _ a' w' h'.2) (h.2 j hj)⟩
theorem wpR_mono : ∀ (n : Nat) (L : Array Bool) (R R' : List (Nat × (World → Prop))) (a : Act) (w : World), (∀ r ∈ R', r ∈ R) → wpR P md ops Q n L R a w → wpR P md ops Q n L R' a w
  | 0, _, _, _, _, _, _, h => h
  | n + 1, L, R, R', a, w, hs, h => ⟨h.1, fun j hj => wpOp_mono (fun a' w' h' => ⟨fun r hr hw => h'.1 r (hs r hr) hw, wpR_mono n _ _ _ a' w' (fun r hr => by
      obtain ⟨h1, h2⟩ := List.mem_filter.1 hr
      exact List.mem_filter.2 ⟨hs r h1, h2⟩) h'.2⟩) (h.2 j hj)⟩
theorem wpR_free : ∀ (n : Nat) (L : Array Bool) (R : List (Nat × (World → Prop))) (i : Nat) (a : Act) (w : World), wpR P md ops Q n L R a w → wpR P md ops Q n L ((i, fun _ => True) :: R) a w
  | 0, _, _, _, _, _, h => h
  | n + 1, L, R, i, a, w, h => ⟨h.1, fun j hj => wpOp_mono (fun a' w' h' => ⟨fun r hr hw => by
      rcases List.mem_cons.1 hr with rfl | hr
      · trivial
      · exact h'.1 r hr hw, by
      by_cases hw : waits md ops j i = true
      · refine wpR_mono n _ _ _ a' w' (fun r hr => ?_) h'.2
        obtain ⟨h1, h2⟩ := List.mem_filter.1 hr
        rcases List.mem_cons.1 h1 with rfl | h1
        · simp [hw] at h2
        · exact List.mem_filter.2 ⟨h1, h2⟩
      · have := wpR_free n _ _ i a' w' h'.2
        refine wpR_mono n _ _ _ a' w' (fun r hr => ?_) this
        obtain ⟨h1, h2⟩ := List.mem_filter.1 hr
        rcases List.mem_cons.1 h1 with rfl | h1
        · exact List.mem_cons_self ..
        · exact List.mem_cons_of_mem _ (List.mem_filter.2 ⟨h1, h2⟩)⟩) (h.2 j hj)⟩
theorem waits_false {i j : Nat} {oj : Oper} (hoj : ops[j]? = some oj) (h : ∀ e ∈ oj.after, Region.binds md e = true → e.on ≠ i) : waits md ops j i = false := by
  unfold waits
  rw [hoj]
  simp only [Option.map_some, Option.getD_some]
  rw [Array.any_eq_false']
  intro e he hc
  obtain ⟨h1, h2⟩ := Bool.and_eq_true_iff.1 hc
  exact h e he h1 (by simpa using h2)
theorem wpR_first {i : Nat} {oi : Oper} {v : Value} {S : World → Prop} (hi : ops[i]? = some oi) (hsel : ∀ (j : Nat) (o : Oper) cs b, ops[j]? = some o → o.op ≠ .select cs b)
    (hQ : ∀ c a w, Q (.panic c) (a.put oi.dst v) w → Q (.panic c) a w) :
    ∀ (n : Nat) (L : Array Bool) (R R' : List (Nat × (World → Prop))) (a : Act) (w : World),
      (∀ j oj, ops[j]? = some oj → j ≠ i → L.getD j true = false → (∀ e ∈ oj.after, Region.binds md e = true → e.on ≠ i) → oi.apart ops oj = true) →
      i ∈ Region.ready md ops L → YieldsIf P ops S oi v a → S w → (∀ r ∈ R, r.2 w) → (i, S) ∈ R' → (∀ r ∈ R, r ∈ R' ∨ (waits md ops i r.1 = true ∧ (i, r.2) ∈ R')) →
      wpR P md ops Q n (L.setIfInBounds i true) R' (a.put oi.dst v) w → wpR P md ops Q (n + 1) L R a w := by
  intro n
  induction n with
  | zero =>
    intro L R R' a w _ hr hy hS hR hiS hRR H
    refine ⟨fun h => (by rw [h] at hr; cases hr), fun j hj => ?_⟩
    by_cases hji : j = i
    · subst hji; exact hy.wpOp hi hS ⟨fun r hr _ => hR r hr, H⟩
    · have := ready_mono hj hji
      rw [H.1] at this
      cases this
  | succ n ih =>
    intro L R R' a w hfree hr hy hS hR hiS hRR H
    refine ⟨fun h => (by rw [h] at hr; cases hr), fun j hj => ?_⟩
    by_cases hji : j = i
    · subst hji
      refine hy.wpOp hi hS ⟨fun r hr _ => hR r hr, wpR_mono _ _ _ _ _ _ (fun r hr => ?_) H⟩
      obtain ⟨h1, h2⟩ := List.mem_filter.1 hr
      rcases hRR r h1 with h | ⟨h, _⟩
      · exact h
      · simp [h] at h2
    · have h1 := H.2 j (ready_mono hj hji)
      obtain ⟨hjun, oj, hoj, hall⟩ := mem_ready.1 hj
      have hnot : ∀ e ∈ oj.after, Region.binds md e = true → e.on ≠ i := fun e he hb heq => by
        have h1 := hall e he hb
        have h0 := (mem_ready.1 hr).1
        rw [heq] at h1
        rcases Nat.lt_or_ge i L.size with h' | h'
        · simp [h'] at h0 h1; rw [h0] at h1; cases h1
        · simp [Array.getElem?_eq_none h'] at h1
      have hwt := waits_false (md := md) hoj hnot
      have h2 := wpOp_putIf hoj (hfree j oj hoj hji hjun hnot) (fun cs b => hsel i oi cs b hi) (fun cs b => hsel j oj cs b hoj) hQ hy h1
      have hfree' : ∀ k ok, ops[k]? = some ok → k ≠ i → (L.setIfInBounds j true).getD k true = false →
          (∀ e ∈ ok.after, Region.binds md e = true → e.on ≠ i) → oi.apart ops ok = true := fun k ok hk hki hun hno => by
        refine hfree k ok hk hki ?_ hno
        by_cases hjk : j = k
        · subst hjk; exact hjun
        · rw [getD_set_ne true hjk] at hun; exact hun
      refine wpOp_mono (fun a' w' h3 => ?_) h2
      obtain ⟨hy', hkeep, hrest⟩ := h3
      have hkeepR : ∀ r ∈ R, waits md ops j r.1 = false → r.2 w' := fun r hr hw => by
        rcases hRR r hr with h | ⟨_, h⟩
        · exact hkeep r h hw
        · exact hkeep (i, r.2) h hwt
      refine ⟨hkeepR, ih (L.setIfInBounds j true) _ (R'.filter fun r => !waits md ops j r.1) a' w' hfree' (ready_mono hr (Ne.symm hji)) hy' (hkeep (i, S) hiS hwt) (fun r hr => ?_) (List.mem_filter.2 ⟨hiS, by simp [hwt]⟩) (fun r hr => ?_) ?_⟩
      · obtain ⟨h5, h6⟩ := List.mem_filter.1 hr
        exact hkeepR r h5 (by simpa using h6)
      · obtain ⟨h5, h6⟩ := List.mem_filter.1 hr
        rcases hRR r h5 with h | ⟨h, h'⟩
        · exact .inl (List.mem_filter.2 ⟨h, h6⟩)
        · exact .inr ⟨h, List.mem_filter.2 ⟨h', by simp [hwt]⟩⟩
      · rw [Array.setIfInBounds_comm _ _ hji]
        exact hrest
end
end Go.X
set_option linter.constructorNameAsVariable false
set_option linter.unusedVariables false
namespace Go.X
variable {cx : Cx} {β : Nm} {s : S} {a : Act} {w : World} {P : Program} {tb : Tb}
def Nx (cx : Cx) (β : Nm) (n : Nat) (K : S → Prop) (a : Act) (w : World) : Prop := ∃ β' s', K s' ∧ Rel cx β' s' a w ∧ Agree n β β' ∧ n ≤ s'.h.length
theorem Nx.of {n : Nat} {K : S → Prop} (hk : K s) (hr : Rel cx β s a w) (hn : n ≤ s.h.length) : Nx cx β n K a w := ⟨β, s, hk, hr, fun _ _ _ => rfl, hn⟩
theorem put_heap {N : Nat} {t : List (Nat × T)} {h : List Fam} {dst : Option Nat} {v : T} {K : S → Prop} (hp : putK N t h dst v K) : putK N t h dst v fun s' => K s' ∧ s'.h = h := by
  cases dst with
  | none => exact ⟨hp, rfl⟩
  | some d =>
    obtain ⟨hb, hk⟩ := putK_some hp
    exact putK_mk hb ⟨hk, rfl⟩
theorem val_wp {o : Oper} {K : S → Prop} {Q : Exit → Act → World → Prop} (h : Val P cx β s a w (fun v h' => putK cx.N s.t h' o.dst v K) (execOp a.eval o)) : o.wp P a w (Nx cx β s.h.length K) Q := by
  obtain ⟨v, β', h', w', hrun, hp, hb, hr, hag, hl⟩ := h
  unfold Oper.wp
  rw [hrun]
  obtain ⟨s', ⟨hk, hs⟩, hr'⟩ := hr.put (dst := o.dst) (v := v) hb (put_heap hp)
  refine ⟨β', s', hk, hr', hag, ?_⟩
  rw [hs]
  exact hl
theorem store_wp {o : Oper} {K : S → Prop} {Q : Exit → Act → World → Prop} {t : Nat} {x v : Operand} (hv : Valid tb P) (hr : Rel cx β s a w) (ho : o.op = .store t x v) (hd : o.dst = none) (h : evC s x fun ad => ev s v fun v => storeK tb s.h t ad v fun h' => K ⟨s.t, h'⟩) :
    o.wp P a w (Nx cx β s.h.length K) Q := by
  obtain ⟨ad, hx, h1⟩ := evC_of hr.tm h
  obtain ⟨u, hu, hub, h2⟩ := ev_of hr.tm (ev_wf (K' := fun v => v.bel s.h.length ∧ _) hr.wf (fun v hv h => ⟨hv, h⟩) h1)
  obtain ⟨h', w', hrun, hk, hr', hl⟩ := storeK_of hv hr hub h2
  unfold Oper.wp
  have e : (execOp a.eval o).run P w = .ok .skip w' := by
    obtain ⟨dst, op, ty, pos, after, guard⟩ := o
    simp only at ho
    subst ho
    simp only [execOp, hx, hu, Sem.run_bind, hrun, Result.andThen_ok, Sem.run_pure]
  rw [e]
  show Nx cx β s.h.length K (a.put o.dst undef) w'
  rw [hd]
  exact ⟨β, _, hk, hr', fun _ _ _ => rfl, by simp only; omega⟩
theorem mapSet_wp {o : Oper} {K : S → Prop} {Q : Exit → Act → World → Prop} {t : Nat} {x y v : Operand} (hv : Valid tb P) (hr : Rel cx β s a w) (ho : o.op = .mapUpdate t x y v ∨ o.op = .insert t x y v) (hd : o.dst = none)
    (h : evC s x fun m => evC s y fun k => ev s v fun v => mapSetK tb s.h t m k v fun h' => K ⟨s.t, h'⟩) : o.wp P a w (Nx cx β s.h.length K) Q := by
  obtain ⟨m, hx, h1⟩ := evC_of hr.tm h
  obtain ⟨k, hy, h2⟩ := evC_of hr.tm h1
  obtain ⟨u, hu, hub, h3⟩ := ev_of hr.tm (ev_wf (K' := fun v => v.bel s.h.length ∧ _) hr.wf (fun v hv h => ⟨hv, h⟩) h2)
  obtain ⟨h', w', hrun, hk, hr', hl⟩ := mapSet_of hv hr hub h3
  unfold Oper.wp
  have e : (execOp a.eval o).run P w = .ok .skip w' := by
    obtain ⟨dst, op, ty, pos, after, guard⟩ := o
    simp only at ho
    rcases ho with rfl | rfl <;> simp only [execOp, hx, hy, hu, Sem.run_bind, hrun, Result.andThen_ok, Sem.run_pure]
  rw [e]
  show Nx cx β s.h.length K (a.put o.dst undef) w'
  rw [hd]
  exact ⟨β, _, hk, hr', fun _ _ _ => rfl, by simp only; omega⟩
theorem capsT_ren (cs : List (Nat × Nat × Nat)) : (cs.map fun q => T.c (.p q.1 q.2.1 q.2.2)).map (T.ren β) = cs.map fun q => Value.pointer (some (place β q.1 q.2.1 q.2.2)) := by
  rw [List.map_map]
  exact List.map_congr_left fun _ _ => rfl
theorem call_wp {o : Oper} {K : S → Prop} {Q : Exit → Act → World → Prop} {f : Operand} {args : Array Operand} {ats : Array Nat} (hr : Rel cx β s a w) (ho : o.op = .call { callee := .value f, args, argTypes := ats })
    (h : evC s f fun fv => match fv with
      | .fn F cs => evs s args.toList fun vs => CallK P F (vs ++ cs.map fun q => T.c (.p q.1 q.2.1 q.2.2)) s.h fun v h' => putK cx.N s.t h' o.dst v K
      | .bf F fs => evs s args.toList fun vs => CallK P F (fs.map (fun l => T.a (l.map fun q => C.i q.1 q.2)) ++ vs) s.h fun v h' => putK cx.N s.t h' o.dst v K
      | _ => False) : o.wp P a w (Nx cx β s.h.length K) Q := by
  obtain ⟨fv, hf, hfb, h1⟩ := evC_of hr.tm (evC_wf (K' := fun v => v.bel s.h.length ∧ _) hr.wf (fun v hv h => ⟨hv, h⟩) h)
  cases fv with
  | fn F cs =>
    obtain ⟨vs, hvs, hvb, h2⟩ := evs_of hr.tm (evs_wf (K' := fun vs => (∀ v ∈ vs, v.bel s.h.length) ∧ _) hr.wf (fun vs hv h => ⟨hv, h⟩) h1)
    obtain ⟨σ, nl, args0, h0, Q0, H2, sp, _⟩ := h2.ex
    have hcall := callK_of hr h2 (by
      intro v hv
      rcases List.mem_append.1 hv with hv | hv
      · exact hvb v hv
      · obtain ⟨q, hq, rfl⟩ := List.mem_map.1 hv
        exact hfb q hq)
    unfold Oper.wp
    have e1 : args.map a.eval = (vs.map (T.ren β)).toArray := by
      apply Array.toList_inj.1
      rw [Array.toList_map, hvs]
    have e2 : ((vs ++ cs.map fun q => T.c (.p q.1 q.2.1 q.2.2)).map (T.ren β)).toArray = (vs.map (T.ren β)).toArray ++ (cs.map fun q => Value.pointer (some (place β q.1 q.2.1 q.2.2))).toArray := by
      rw [List.map_append, capsT_ren]
      simp
    have e : (execOp a.eval o).run P w = .ok (.enter F ((vs ++ cs.map fun q => T.c (.p q.1 q.2.1 q.2.2)).map (T.ren β)).toArray) w := by
      obtain ⟨dst, op, ty, pos, after, guard⟩ := o
      simp only at ho
      subst ho
      simp only [execOp, resolve, hf, C.ren, Deferred.ofValue, Sem.run_bind, Sem.run_pure, Result.andThen_ok, invoke, e1]
      rw [e2]
      have := sp.cf ((vs.map (T.ren β)).toArray ++ (cs.map fun q => Value.pointer (some (place β q.1 q.2.1 q.2.2))).toArray) w
      simpa using this
    rw [e]
    refine hcall.mono fun e w' hh => ?_
    obtain ⟨v, h', β', rfl, hp, hb, hag, hl, hr'⟩ := hh
    obtain ⟨s', ⟨hk, hs⟩, hr''⟩ := hr'.put (dst := o.dst) (v := v) hb (put_heap hp)
    refine ⟨β', s', hk, hr'', hag, ?_⟩
    rw [hs]
    exact hl
  | bf F fs =>
    obtain ⟨vs, hvs, hvb, h2⟩ := evs_of hr.tm (evs_wf (K' := fun vs => (∀ v ∈ vs, v.bel s.h.length) ∧ _) hr.wf (fun vs hv h => ⟨hv, h⟩) h1)
    obtain ⟨σ, nl, args0, h0, Q0, H2, sp, _⟩ := h2.ex
    have hcall := callK_of hr h2 (by
      intro v hv
      rcases List.mem_append.1 hv with hv | hv
      · obtain ⟨l, hl, rfl⟩ := List.mem_map.1 hv
        intro c hc
        obtain ⟨q, hq, rfl⟩ := List.mem_map.1 hc
        trivial
      · exact hvb v hv)
    unfold Oper.wp
    have e1 : args.map a.eval = (vs.map (T.ren β)).toArray := by
      apply Array.toList_inj.1
      rw [Array.toList_map, hvs]
    have e2 : ((fs.map (fun l => T.a (l.map fun q => C.i q.1 q.2)) ++ vs).map (T.ren β)).toArray = (fs.map fun l => Value.agg (l.map fun q => Value.int q.1 q.2).toArray).toArray ++ (vs.map (T.ren β)).toArray := by
      rw [List.map_append, List.map_map]
      have : fs.map (T.ren β ∘ fun l => T.a (l.map fun q => C.i q.1 q.2)) = fs.map fun l => Value.agg (l.map fun q => Value.int q.1 q.2).toArray :=
        List.map_congr_left fun l _ => by simp [T.ren, renL, C.ren, Function.comp_def]
      rw [this]
      simp
    have e : (execOp a.eval o).run P w = .ok (.enter F ((fs.map (fun l => T.a (l.map fun q => C.i q.1 q.2)) ++ vs).map (T.ren β)).toArray) w := by
      obtain ⟨dst, op, ty, pos, after, guard⟩ := o
      simp only at ho
      subst ho
      simp only [execOp, resolve, hf, C.ren, Deferred.ofValue, Sem.run_bind, Sem.run_pure, Result.andThen_ok, invoke, e1]
      rw [e2]
      have := sp.cf ((fs.map fun l => Value.agg (l.map fun q => Value.int q.1 q.2).toArray).toArray ++ (vs.map (T.ren β)).toArray) w
      simpa using this
    rw [e]
    refine hcall.mono fun e w' hh => ?_
    obtain ⟨v, h', β', rfl, hp, hb, hag, hl, hr'⟩ := hh
    obtain ⟨s', ⟨hk, hs⟩, hr''⟩ := hr'.put (dst := o.dst) (v := v) hb (put_heap hp)
    refine ⟨β', s', hk, hr'', hag, ?_⟩
    rw [hs]
    exact hl
  | _ => exact h1.elim
theorem xop_wp {o : Oper} {K : S → Prop} {Q : Exit → Act → World → Prop} (hv : Valid tb P) (hr : Rel cx β s a w) (h : xop P tb cx.N s o K) : o.wp P a w (Nx cx β s.h.length K) Q := by
  obtain ⟨t0, h0⟩ := s
  have key : ∀ op, o.op = op → xop P tb cx.N ⟨t0, h0⟩ o K → o.wp P a w (Nx cx β h0.length K) Q := by
    intro op ho h
    unfold xop at h
    rw [ho] at h
    cases op with
    | store t x v =>
      simp only at h
      cases hd : o.dst with
      | none => rw [hd] at h; exact store_wp hv hr ho hd h
      | some d => rw [hd] at h; exact h.elim
    | mapUpdate t x y v =>
      simp only at h
      cases hd : o.dst with
      | none => rw [hd] at h; exact mapSet_wp hv hr (.inl ho) hd h
      | some d => rw [hd] at h; exact h.elim
    | insert t x y v =>
      simp only at h
      cases hd : o.dst with
      | none => rw [hd] at h; exact mapSet_wp hv hr (.inr ho) hd h
      | some d => rw [hd] at h; exact h.elim
    | call c =>
      obtain ⟨callee, args, ats⟩ := c
      cases callee with
      | value f => exact call_wp hr ho h
      | builtin b => exact val_wp (xval_of hv hr (by rw [ho]; exact h))
      | invoke r m => exact val_wp (xval_of hv hr (by rw [ho]; exact h))
    | _ => exact val_wp (xval_of hv hr (by rw [ho]; exact h))
  exact key o.op rfl h
theorem skip_wp {dst : Option Nat} {K : S → Prop} (hr : Rel cx β s a w) (h : skipK cx.N s dst K) : ∃ s', K s' ∧ s'.h = s.h ∧ Rel cx β s' (a.put dst undef) w := by
  obtain ⟨t0, h0⟩ := s
  obtain ⟨s', ⟨hk, hs⟩, hr'⟩ := hr.put (dst := dst) (v := .t []) (fun _ h => by cases h) (put_heap h)
  exact ⟨s', hk, hs, hr'⟩
theorem Rel.same (hr : Rel cx β s a w) {d : Nat} {u v : T} (hd : find s.t d = some u) (he : u.ren β = v.ren β) (hb : v.bel s.h.length) : Rel cx β ⟨(d, v) :: s.t, s.h⟩ a w := by
  refine ⟨hr.dfr, hr.sz, ⟨fun i x hx => ?_⟩, hr.ft, ⟨fun i x hx => ?_, hr.wf.h⟩, hr.ml, hr.pin, hr.os, hr.tape, hr.out, hr.hs, hr.fr, hr.ow, hr.kn⟩
  · simp only [find] at hx
    split at hx
    · rename_i hdi
      subst hdi
      cases hx
      rw [hr.tm.tm d u hd, he]
    · exact hr.tm.tm i x hx
  · simp only [find] at hx
    split at hx
    · cases hx; exact hb
    · exact hr.wf.t i x hx
theorem guardK_of {ops : List Oper} {arr : Array Oper} (harr : arr.toList = ops) {o : Oper} {W X : S → Prop} (hr : Rel cx β s a w) (h : guardK ops s o.guard W X) :
    ∃ s', s'.h = s.h ∧ Rel cx β s' a w ∧ ((Region.wanted o (yielded arr a.tmps) = true ∧ W s') ∨ (Region.wanted o (yielded arr a.tmps) = false ∧ X s')) := by
  obtain ⟨t0, h0⟩ := s
  unfold guardK at h
  split at h
  · rename_i hg
    exact ⟨⟨t0, h0⟩, rfl, hr, .inl ⟨by simp [Region.wanted, hg], h⟩⟩
  · rename_i j wd hg
    obtain ⟨oj, hj, h1⟩ := nth_of h
    split at h1
    · exact h1.elim
    · rename_i d hd
      obtain ⟨v, hv, h2⟩ := lk_of h1
      have hjj : arr[j]? = some oj := by rw [← Array.getElem?_toList, harr]; exact hj
      have hyd : ∀ b, v.ren β = .bool b → Region.wanted o (yielded arr a.tmps) = (b == wd) := by
        intro b hb
        have := hr.tm.tm d v hv
        rw [hb] at this
        simp only [Region.wanted, hg, yielded, hjj, Option.bind_some, hd, this]
        cases b <;> cases wd <;> rfl
      split at h2
      · have hw := hyd true rfl
        split at h2
        · exact ⟨⟨t0, h0⟩, rfl, hr, .inl ⟨hw, h2⟩⟩
        · exact ⟨⟨t0, h0⟩, rfl, hr, .inr ⟨hw, h2⟩⟩
      · have hw := hyd false rfl
        split at h2
        · exact ⟨⟨t0, h0⟩, rfl, hr, .inl ⟨hw, h2⟩⟩
        · exact ⟨⟨t0, h0⟩, rfl, hr, .inr ⟨hw, h2⟩⟩
      · rename_i b
        have hw := hyd b rfl
        cases hb : b with
        | true =>
          have h3 := h2.1 hb
          have hr' : Rel cx β ⟨(d, .c .tt) :: t0, h0⟩ a w := hr.same hv (by simp [T.ren, C.ren, hb]) trivial
          split at h3
          · exact ⟨⟨(d, .c .tt) :: t0, h0⟩, rfl, hr', .inl ⟨by rw [hw, hb]; rfl, h3⟩⟩
          · exact ⟨⟨(d, .c .tt) :: t0, h0⟩, rfl, hr', .inr ⟨by rw [hw, hb]; rfl, h3⟩⟩
        | false =>
          have h3 := h2.2 hb
          have hr' : Rel cx β ⟨(d, .c .ff) :: t0, h0⟩ a w := hr.same hv (by simp [T.ren, C.ren, hb]) trivial
          split at h3
          · exact ⟨⟨(d, .c .ff) :: t0, h0⟩, rfl, hr', .inl ⟨by rw [hw, hb]; rfl, h3⟩⟩
          · exact ⟨⟨(d, .c .ff) :: t0, h0⟩, rfl, hr', .inr ⟨by rw [hw, hb]; rfl, h3⟩⟩
      · rename_i l
        have := hr.tm.tm d _ hv
        exact ⟨⟨t0, h0⟩, rfl, hr, .inr ⟨by simp only [Region.wanted, hg, yielded, hjj, Option.bind_some, hd, this]; rfl, h2⟩⟩
      · exact h2.elim
theorem gop_wp {ops : List Oper} {arr : Array Oper} (harr : arr.toList = ops) {o : Oper} {K : S → Prop} {Q : Exit → Act → World → Prop} (hv : Valid tb P) (hr : Rel cx β s a w) (h : gop P tb cx.N ops s o K) :
    if Region.wanted o (yielded arr a.tmps) = true then o.wp P a w (Nx cx β s.h.length K) Q else Nx cx β s.h.length K (a.put o.dst undef) w := by
  obtain ⟨s', hs, hr', h1 | h1⟩ := guardK_of harr hr h
  · rw [if_pos h1.1, ← hs]
    exact xop_wp hv hr' h1.2
  · rw [if_neg (by rw [h1.1]; simp)]
    obtain ⟨s'', hk, hh, hr''⟩ := skip_wp hr' h1.2
    exact ⟨β, s'', hk, hr'', fun _ _ _ => rfl, by rw [hh, hs]; exact Nat.le_refl _⟩
theorem xops_wp {ops : List Oper} {arr : Array Oper} (harr : arr.toList = ops) (hv : Valid tb P) {Q : Exit → Act → World → Prop} {K : S → Prop} {n : Nat} (hQ : ∀ a w, Nx cx β n K a w → Q .normal a w) :
    ∀ (l : List Oper) (β' : Nm) (s : S) (a : Act) (w : World), Agree n β β' → n ≤ s.h.length → Rel cx β' s a w → xops P tb cx.N ops l s K → wpList P arr Q l a w
  | [], β', s, a, w, hag, hn, hr, h => hQ a w ⟨β', s, h, hr, hag, hn⟩
  | o :: r, β', s, a, w, hag, hn, hr, h => by
    have h1 := gop_wp (Q := Q) harr hv hr h
    have next : ∀ a w, Nx cx β' s.h.length (fun s' => xops P tb cx.N ops r s' K) a w → wpList P arr Q r a w := by
      rintro a w ⟨β'', s', hk, hr', hag', hl'⟩
      exact xops_wp harr hv hQ r β'' s' a w (fun f x hf => (hag f x hf).trans (hag' f x (by omega))) (by omega) hr' hk
    unfold wpList
    split at h1
    · rename_i hw
      rw [if_pos hw]
      exact .inl (Oper.wp_mono next h1)
    · rename_i hw
      rw [if_neg hw]
      exact next _ _ h1
end Go.X
