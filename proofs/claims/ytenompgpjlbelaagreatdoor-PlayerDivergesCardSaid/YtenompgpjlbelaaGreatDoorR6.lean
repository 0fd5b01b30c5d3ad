/- Part 6 of the texts that a walk of this program rests on: an abstract machine, its soundness, contracts of functions. No statement of the seat is proved in this file. -/
import Derived.Test.YtenompgpjlbelaaGreatDoorR5
namespace Go.Proofs.YtenompgpjlbelaaGreatDoor
open Go.X
open P4
open P5
/-- Chunks of a recording of at most 120 records. -/
structure LOk (L : List (List Rc)) : Prop where
  ch : ∀ x ∈ L, 0 < x.length
  ok : ∀ r ∈ L.flatten, okR r
  pw : L.flatten.Pairwise fun a b => a.at_ ≤ b.at_
  n : L.flatten.length ≤ 120
theorem mem_getD {α : Type} [Inhabited α] {l : List α} {k : Nat} (h : k < l.length) : l.getD k default ∈ l := by rw [getD_at h]; exact List.getElem_mem _
theorem asc_of : ∀ {l : List Rc} {la : Int}, (∀ r ∈ l, okR r ∧ la ≤ r.at_) → (l.Pairwise fun a b => a.at_ ≤ b.at_) → Asc la l
  | [], _, _, _ => trivial
  | r :: l, la, h, hp => by
    have h1 := h r (List.mem_cons_self ..)
    have h2 := List.pairwise_cons.1 hp
    exact ⟨h1.1, h1.2, asc_of (fun q hq => ⟨(h q (List.mem_cons_of_mem _ hq)).1, h2.1 q hq⟩) h2.2⟩
theorem LOk.sub {L : List (List Rc)} {x : List Rc} (hx : x ∈ L) : x.Sublist L.flatten := List.sublist_flatten_of_mem hx
theorem LOk.okX {L : List (List Rc)} (h : LOk L) : ∀ x ∈ L, okX x := fun x hx => by
  have h1 := (LOk.sub hx).length_le
  have h2 := h.n
  exact ⟨h.ch x hx, by omega, fun q hq => h.ok q ((LOk.sub hx).subset hq)⟩
theorem LOk.asc {L : List (List Rc)} (h : LOk L) {x : List Rc} (hx : x ∈ L) : Asc 0 x :=
  asc_of (fun r hr => ⟨(h.okX x hx).2.2 r hr, ((h.okX x hx).2.2 r hr).2.1.1⟩) (h.pw.sublist (LOk.sub hx))
theorem len_flat : ∀ {L : List (List Rc)}, (∀ x ∈ L, 0 < x.length) → L.length ≤ L.flatten.length
  | [], _ => Nat.zero_le _
  | x :: L, h => by
    have h1 := len_flat fun y hy => h y (List.mem_cons_of_mem _ hy)
    have h2 := h x (List.mem_cons_self ..)
    rw [List.flatten_cons, List.length_append, List.length_cons]
    omega
theorem LOk.len {L : List (List Rc)} (h : LOk L) : L.length ≤ 120 := Nat.le_trans (len_flat h.ch) h.n
theorem secB_pos (x : List Rc) : 1 ≤ (secB x).length := by
  have := sealL_len (conB x)
  unfold secB textL
  rw [List.length_append]
  omega
theorem secsB_le : ∀ {L : List (List Rc)}, (∀ r ∈ L.flatten, okR r) → (secsB L).length ≤ 24 * L.length + 4070 * L.flatten.length
  | [], _ => by simp [secsB]
  | x :: L, h => by
    have h1 := secsB_le (L := L) fun r hr => h r (by rw [List.flatten_cons, List.mem_append]; exact .inr hr)
    have h2 := secB_len (l := x) fun r hr => h r (by rw [List.flatten_cons, List.mem_append]; exact .inl hr)
    have h3 : (secsB (x :: L)).length = (secB x).length + (secsB L).length := by simp [secsB]
    rw [h3, List.flatten_cons, List.length_append, List.length_cons]
    omega
theorem LOk.secs {L : List (List Rc)} (h : LOk L) : (secsB L).length ≤ 491280 := by
  have h1 := secsB_le h.ok
  have h2 := h.len
  have h3 := h.n
  omega
theorem secsB_take {L : List (List Rc)} {k : Nat} (h : k < L.length) : secsB (L.take (k + 1)) = secsB (L.take k) ++ secB (L.getD k default) := by
  rw [take_snocG L h, secsB_snoc]
theorem secsB_app (L M : List (List Rc)) : secsB (L ++ M) = secsB L ++ secsB M := by simp [secsB]
theorem secsB_tl (L : List (List Rc)) (k : Nat) : secsB L = secsB (L.take k) ++ secsB (L.drop k) := by rw [← secsB_app, List.take_append_drop]
theorem le8_le : ∀ k n, le8 (le k n) = n % 256 ^ k
  | 0, n => by simp [le, le8, Nat.mod_one]
  | k + 1, n => by
    rw [le, le8_cons, le8_le k, Nat.pow_succ', Nat.mod_mul, UInt8.toNat_ofNat']
    omega
/-- The bag of some chunks. -/
def bgL (L : List (List Rc)) : Bg := ⟨bagB L, 5 + (secsB L).length, entsO 5 L⟩
theorem bagB_len (L : List (List Rc)) : (bagB L).length = 5 + (secsB L).length + (textL (sealL (indB L))).length + 13 := by
  simp only [bagB, magic, List.length_append, le_length, List.length_cons, List.length_nil]
theorem bgA_bag {L : List (List Rc)} (h : (secsB L).length ≤ 1000000000) : bgA (bagB L) = 5 + (secsB L).length := by
  have hl := bagB_len L
  have h1 : (bagB L).drop ((bagB L).length - 13) = le 8 (5 + (secsB L).length) ++ magic := by
    have e : bagB L = (magic ++ secsB L ++ textL (sealL (indB L))) ++ (le 8 (5 + (secsB L).length) ++ magic) := by simp only [bagB, List.append_assoc]
    conv => lhs; arg 2; rw [e]
    exact List.drop_left' (by rw [hl]; simp only [magic, List.length_append, List.length_cons, List.length_nil]; omega)
  unfold bgA
  rw [h1, List.take_left' (le_length 8 _), le8_le]
  omega
theorem bgX_bag {L : List (List Rc)} (h : (secsB L).length ≤ 1000000000) (hi : (indB L).length ≤ 1000000000) : bgX (bagB L) = (indB L, 0) := by
  have hl := bagB_len L
  have e : bagB L = (magic ++ secsB L ++ textL (sealL (indB L))) ++ (le 8 (5 + (secsB L).length) ++ magic) := by simp only [bagB, List.append_assoc]
  have h1 : (bagB L).take ((bagB L).length - 13) = magic ++ secsB L ++ textL (sealL (indB L)) := by
    conv => lhs; arg 2; rw [e]
    exact List.take_left' (by rw [hl]; simp only [magic, List.length_append, List.length_cons, List.length_nil]; omega)
  unfold bgX
  rw [h1, bgA_bag h, List.drop_left' (by simp only [magic, List.length_append, List.length_cons, List.length_nil]), exaL_fw hi]
theorem tal_okTs {x : List Rc} (h : okX x) : okTs (tal x) ∧ 1 ≤ (tal x).length := by
  obtain ⟨h1, h2, h3⟩ := tal_inv x
  have hm : (x.getD 0 default).tp ∈ (tal x).map Prod.fst := (h2 _).2 (List.mem_map.2 ⟨_, by rw [getD_at h.1]; exact List.getElem_mem _, rfl⟩)
  refine ⟨fun i hi => ⟨?_, fun h0 => ?_, ?_⟩, by have := List.length_pos_of_mem hm; rw [List.length_map] at this; omega⟩
  · have ht : (tal x).getD i default ∈ tal x := by rw [getD_at hi]; exact List.getElem_mem _
    obtain ⟨r, hr, e⟩ := List.mem_map.1 ((h2 _).1 (List.mem_map.2 ⟨_, ht, rfl⟩))
    rw [← e]
    exact (h.2.2 r hr).1
  · unfold SrtT at h1
    rw [List.pairwise_map, List.pairwise_iff_getElem] at h1
    have := h1 (i - 1) i (by omega) hi (by omega)
    rw [getD_at (show i - 1 < (tal x).length by omega), getD_at hi]
    exact this
  · exact tal_one _ (by rw [getD_at hi]; exact List.getElem_mem _)
theorem LOk.le {L : List (List Rc)} (h : LOk L) {i j : Nat} (hij : i < j) (hj : j < L.length) {x y : Rc} (hx : x ∈ L.getD i default) (hy : y ∈ L.getD j default) : x.at_ ≤ y.at_ := by
  have h1 := (List.pairwise_flatten.1 h.pw).2
  rw [List.pairwise_iff_getElem] at h1
  have := h1 i j (by omega) hj hij
  rw [getD_at (by omega)] at hx
  rw [getD_at hj] at hy
  exact this x hx y hy
theorem LOk.at {L : List (List Rc)} (h : LOk L) {i : Nat} (hi : i < L.length) : Go.Proofs.YtenompgpjlbelaaGreatDoor.okX (L.getD i default) ∧ (∀ a b, a ≤ b → b < (L.getD i default).length → ((L.getD i default).getD a default).at_ ≤ ((L.getD i default).getD b default).at_) ∧ Asc 0 (L.getD i default) := by
  have hm : L.getD i default ∈ L := by rw [getD_at hi]; exact List.getElem_mem _
  refine ⟨h.okX _ hm, fun a b hab hb => ?_, h.asc hm⟩
  have hp := h.pw.sublist (LOk.sub hm)
  rw [List.pairwise_iff_getElem] at hp
  rcases Nat.lt_or_ge a b with q | q
  · rw [getD_at (by omega), getD_at hb]
    exact hp a b (by omega) hb q
  · obtain rfl : a = b := by omega
    exact Int.le_refl _
theorem LOk.ord {L : List (List Rc)} (h : LOk L) : ordE (entsO 5 L) (5 + (secsB L).length) := by
  have hel := entsO_len L 5
  refine ⟨fun h0 => ?_, fun i hi => ?_⟩
  · rw [hel] at h0
    have : L = [] := List.length_eq_zero_iff.1 h0
    subst this
    simp [secsB]
  · rw [hel] at hi
    obtain ⟨hx, hasc, _⟩ := h.at hi
    have hT := tal_okTs hx
    have hx0 := hx.1
    have n0 := (okX_at hx hx0).2.1.1
    have nl := (okX_at hx (k := (L.getD i default).length - 1) (by omega)).2.1.1
    have hfl := hasc 0 ((L.getD i default).length - 1) (by omega) (by omega)
    have hs1 := congrArg List.length (secsB_tl L (i + 1))
    rw [secsB_take hi, List.length_append, List.length_append] at hs1
    have hp := secB_pos (L.getD i default)
    have hprev : 0 < i → (secsB (L.take (i - 1))).length < (secsB (L.take i)).length := fun h0 => by
      have := congrArg List.length (secsB_take (L := L) (k := i - 1) (by omega))
      rw [show i - 1 + 1 = i by omega, List.length_append] at this
      have := secB_pos (L.getD (i - 1) default)
      omega
    have hpl : 0 < i → ((L.getD (i - 1) default).getD ((L.getD (i - 1) default).length - 1) default).at_ ≤ ((L.getD i default).getD 0 default).at_ := fun h0 => by
      have hy := (h.at (i := i - 1) (by omega)).1.1
      exact h.le (i := i - 1) (j := i) (by omega) hi (mem_getD (by omega)) (mem_getD hx0)
    unfold okE1
    rw [entsO_at L 5 i hi]
    refine ⟨⟨fun h0 => ?_, fun h0 => ?_, ?_⟩, ⟨fun h0 => ?_, ?_, hT.2⟩, hT.1⟩
    · subst h0
      simp [entO, secsB]
    · rw [entsO_at L 5 (i - 1) (by omega)]
      simp only [entO]
      have := hprev h0
      omega
    · simp only [entO]
      omega
    · rw [entsO_at L 5 (i - 1) (by omega)]
      simp only [entO]
      have := hpl h0
      omega
    · simp only [entO]
      omega
theorem LOk.ind {L : List (List Rc)} (h : LOk L) : (indB L).length ≤ 1000000000 := by
  have h1 := inB_len (n := L.length) (L := L) fun x hx => (h.okX x hx).2
  have h2 := h.len
  have h3 : inB L.length L = indB L := rfl
  rw [h3] at h1
  omega
theorem bag_open {L : List (List Rc)} (h : LOk L) : bgE (bagB L) = 0 ∧ bgO (bagB L) = bgL L := by
  have hs := h.secs
  have hl := bagB_len L
  have hA := bgA_bag (L := L) (by omega)
  have hX := bgX_bag (L := L) (by omega) h.ind
  have hI := ixL_fw h.okX (by have := h.len; omega) (by omega)
  have h5 : (bagB L).take 5 = magic := by
    have e : bagB L = magic ++ (secsB L ++ (textL (sealL (indB L)) ++ (le 8 (5 + (secsB L).length) ++ magic))) := by simp only [bagB, List.append_assoc]
    rw [e]
    exact List.take_left' rfl
  have h6 : (bagB L).drop ((bagB L).length - 5) = magic := by
    have e : bagB L = (magic ++ secsB L ++ textL (sealL (indB L)) ++ le 8 (5 + (secsB L).length)) ++ magic := rfl
    conv => lhs; arg 2; rw [e]
    exact List.drop_left' (by rw [hl]; simp only [magic, List.length_append, List.length_cons, List.length_nil, le_length]; omega)
  refine ⟨?_, ?_⟩
  · unfold bgE
    rw [if_neg (by omega), if_neg (fun q => q ⟨h5, h6, by omega, by omega⟩), hX, if_neg (fun q => q rfl), hI, hA, if_pos ⟨rfl, h.ord⟩]
  · unfold bgO bgL
    rw [hA, hX, hI]
theorem endE_bag {L : List (List Rc)} {k : Nat} (hk : k < L.length) : endE (bgL L) k = 5 + (secsB (L.take (k + 1))).length := by
  have hel := entsO_len L 5
  unfold endE
  have e : (bgL L).L = entsO 5 L := rfl
  have e2 : (bgL L).ix = 5 + (secsB L).length := rfl
  rw [e, hel, e2]
  split
  · rename_i h1
    rw [entsO_at L 5 (k + 1) h1]
    rfl
  · rw [show k + 1 = L.length by omega, List.take_length]
theorem chX_bag {L : List (List Rc)} (h : LOk L) {k : Nat} (hk : k < L.length) : chX (bgL L) k = (conB (L.getD k default), 0) := by
  have hE := endE_bag hk
  have hx := (h.at hk).1
  have hcl := conB_len hx.2.2
  have hxl := hx.2.1
  have hst := secsB_take hk
  have e0 : (bgL L).s = bagB L := rfl
  have e1 : (bgL L).L.getD k default = entO (5 + (secsB (L.take k)).length) (L.getD k default) := entsO_at L 5 k hk
  have e : bagB L = (magic ++ secsB (L.take (k + 1))) ++ (secsB (L.drop (k + 1)) ++ (textL (sealL (indB L)) ++ (le 8 (5 + (secsB L).length) ++ magic))) := by
    unfold bagB
    conv => lhs; rw [show magic ++ secsB L = magic ++ secsB (L.take (k + 1)) ++ secsB (L.drop (k + 1)) by rw [List.append_assoc, ← secsB_tl]]
    simp only [List.append_assoc]
  unfold chX
  rw [hE, e0, e1]
  have ht : (bagB L).take (5 + (secsB (L.take (k + 1))).length) = magic ++ secsB (L.take (k + 1)) := by
    conv => lhs; arg 2; rw [e]
    exact List.take_left' (by simp only [magic, List.length_append, List.length_cons, List.length_nil])
  rw [ht, hst, ← List.append_assoc]
  have hd : (magic ++ secsB (L.take k) ++ secB (L.getD k default)).drop (entO (5 + (secsB (L.take k)).length) (L.getD k default)).off = secB (L.getD k default) := List.drop_left' (by simp only [entO, magic, List.length_append, List.length_cons, List.length_nil])
  rw [hd]
  exact exaL_fw (by omega)
theorem ch_bag {L : List (List Rc)} (h : LOk L) {k : Nat} (hk : k < L.length) : chE (bgL L) k = 0 ∧ chL (bgL L) k = L.getD k default := by
  obtain ⟨hx, _, ha⟩ := h.at hk
  have hx0 := hx.1
  have n0 := (okX_at hx hx0).2.1.1
  have nl := (okX_at hx (k := (L.getD k default).length - 1) (by omega)).2.1.1
  obtain ⟨h1, h2⟩ := chE_eq (chX_bag h hk) (recL_fw ha)
  have e1 : (bgL L).L.getD k default = entO (5 + (secsB (L.take k)).length) (L.getD k default) := entsO_at L 5 k hk
  have h3 : chE (bgL L) k = 0 := by
    rw [h1, e1, if_neg (fun q => q rfl), if_pos]
    exact ⟨hx0, (Int.toNat_of_nonneg n0).symm, (Int.toNat_of_nonneg nl).symm, rfl⟩
  exact ⟨h3, by rw [h2, if_pos h3]⟩
end Go.Proofs.YtenompgpjlbelaaGreatDoor


namespace Go.Proofs.YtenompgpjlbelaaGreatDoor
open Go.X
open P4
open P5
theorem drop_flat {L : List (List Rc)} {k : Nat} (h : k < L.length) : (L.drop k).flatten = L.getD k default ++ (L.drop (k + 1)).flatten := by
  rw [drop_consG L h, List.flatten_cons]
theorem fi_le {L : List (List Rc)} (h : LOk L) {k : Nat} (hk : k < L.length) {r : Rc} (hr : r ∈ L.getD k default) :
    (((L.getD k default).getD 0 default).at_.toNat : Int) ≤ r.at_ ∧ r.at_ ≤ (((L.getD k default).getD ((L.getD k default).length - 1) default).at_.toNat : Int) := by
  obtain ⟨hx, ha, _⟩ := h.at hk
  obtain ⟨i, hi, e⟩ := List.mem_iff_getElem.1 hr
  have h1 := ha 0 i (by omega) hi
  have h2 := ha i ((L.getD k default).length - 1) (by omega) (by omega)
  have n0 := (okX_at hx hx.1).2.1.1
  rw [getD_at hi, e] at h1 h2
  omega
theorem skip_bag {L : List (List Rc)} (h : LOk L) {k : Nat} (hk : k < L.length) {t : List UInt8} {fr un : Int} (hs : skipE ((bgL L).L.getD k default) t fr un) : selR t fr un (L.getD k default) = [] := by
  rw [show (bgL L).L.getD k default = entO (5 + (secsB (L.take k)).length) (L.getD k default) from entsO_at L 5 k hk] at hs
  unfold selR
  rw [List.filter_eq_nil_iff]
  intro r hr hq
  have hq := of_decide_eq_true hq
  have hf := fi_le h hk hr
  rcases hs with q | q | q
  · refine q (hq.1.imp id fun e => ?_)
    exact ((tal_inv _).2.1 t).2 (List.mem_map.2 ⟨r, hr, e⟩)
  · simp only [entO] at q
    omega
  · simp only [entO] at q
    omega
theorem selR_app (t : List UInt8) (fr un : Int) (l m : List Rc) : selR t fr un (l ++ m) = selR t fr un l ++ selR t fr un m := List.filter_append ..
theorem rdB_bag {L : List (List Rc)} (h : LOk L) (t : List UInt8) (fr un : Int) : ∀ n k, k + n = L.length → rdB (bgL L) t fr un n k = (selR t fr un (L.drop k).flatten, 0)
  | 0, k, hk => by rw [List.drop_of_length_le (by omega)]; rfl
  | n + 1, k, hk => by
    have ih := rdB_bag h t fr un n (k + 1) (by omega)
    obtain ⟨h1, h2⟩ := ch_bag h (k := k) (by omega)
    rw [drop_flat (by omega), selR_app]
    unfold rdB
    by_cases hs : skipE ((bgL L).L.getD k default) t fr un
    · rw [if_pos hs, ih, skip_bag h (by omega) hs, List.nil_append]
    · rw [if_neg hs, if_neg (fun q => q h1), ih, if_pos rfl, h2]
theorem read_bag {L : List (List Rc)} (h : LOk L) (t : List UInt8) (fr un : Int) : readB (bgL L) t fr un = (selR t fr un L.flatten, 0) := by
  unfold readB
  rw [rdB_bag h t fr un _ 0 (by rw [Nat.zero_add]; exact entsO_len L 5), List.drop_zero]
end Go.Proofs.YtenompgpjlbelaaGreatDoor


namespace Go.Proofs.YtenompgpjlbelaaGreatDoor
open Go.X
open P4
open P5
theorem addE_0 {w : Wr} {r : Rc} : addE w r = 0 ↔ w.cl = false ∧ okR r ∧ w.la ≤ r.at_ ∧ w.ad < 4096 := by
  unfold addE okR
  by_cases h1 : w.cl = true
  · rw [if_pos h1]; simp [h1]
  rw [if_neg h1]
  by_cases h2 : isT r.tp
  · rw [if_neg (fun q => q h2)]
    by_cases h3 : r.at_ < 0 ∨ 1099511627776 < r.at_
    · rw [if_pos h3]
      exact ⟨fun q => absurd q (by decide), fun q => by omega⟩
    · rw [if_neg h3]
      by_cases h4 : 4000 < r.pl.length
      · rw [if_pos h4]
        exact ⟨fun q => absurd q (by decide), fun q => by omega⟩
      · rw [if_neg h4]
        by_cases h5 : r.at_ < w.la
        · rw [if_pos h5]
          exact ⟨fun q => absurd q (by decide), fun q => by omega⟩
        · rw [if_neg h5]
          by_cases h6 : 4096 ≤ w.ad
          · rw [if_pos h6]
            exact ⟨fun q => absurd q (by decide), fun q => by omega⟩
          · rw [if_neg h6]
            exact ⟨fun _ => ⟨by simpa using h1, ⟨h2, by omega, by omega⟩, by omega, by omega⟩, fun _ => rfl⟩
  · rw [if_pos h2]
    exact ⟨fun q => absurd q (by decide), fun q => absurd q.2.1.1 h2⟩
/-- A writer that accepted some records. -/
structure WI (w : Wr) (A : List Rc) : Prop where
  cl : w.cl = false
  fl : w.L.flatten = A
  ch : ∀ x ∈ w.L, 0 < x.length
  ok : ∀ r ∈ A, okR r
  pw : A.Pairwise fun a b => a.at_ ≤ b.at_
  la : w.la = (lastR w.L).at_
  lw : w.la = 0 ∨ ∃ r ∈ A, w.la = r.at_
  tp : ∀ r ∈ A, r.at_ ≤ w.la
  ad : w.ad = A.length
theorem WI.new (n : Int) : WI (newW n) [] :=
  ⟨rfl, rfl, fun x hx => (by cases hx), fun r hr => (by cases hr), List.Pairwise.nil, rfl, .inl rfl, fun r hr => (by cases hr), rfl⟩
theorem set_last {L : List (List Rc)} (h : 0 < L.length) (y : List Rc) : L.set (L.length - 1) y = L.take (L.length - 1) ++ [y] := by
  apply List.ext_getElem
  · rw [List.length_set, List.length_append, List.length_take, List.length_singleton]; omega
  · intro i h1 h2
    rw [List.length_set] at h1
    rw [List.getElem_set, List.getElem_append]
    split
    · subst_vars
      rw [dif_neg (by rw [List.length_take]; omega)]
      simp
    · rw [dif_pos (by rw [List.length_take]; omega), List.getElem_take]
theorem put_flat (n : Int) (L : List (List Rc)) (r : Rc) : (putR n L r).flatten = L.flatten ++ [r] := by
  unfold putR
  split
  · rename_i h
    have h0 : 0 < L.length := h.1
    rw [set_last h0, List.flatten_append]
    conv => rhs; rw [← List.take_append_drop (L.length - 1) L, drop_consG L (show L.length - 1 < L.length by omega), List.drop_of_length_le (show L.length ≤ L.length - 1 + 1 by omega), List.flatten_append]
    simp
  · simp
theorem put_ch {n : Int} {L : List (List Rc)} {r : Rc} (h : ∀ x ∈ L, 0 < x.length) : ∀ x ∈ putR n L r, 0 < x.length := fun x hx => by
  unfold putR at hx
  split at hx
  · rename_i h0
    rw [set_last h0.1] at hx
    rcases List.mem_append.1 hx with q | q
    · exact h x (List.mem_of_mem_take q)
    · rw [List.mem_singleton.1 q]; simp
  · rcases List.mem_append.1 hx with q | q
    · exact h x q
    · rw [List.mem_singleton.1 q]; simp
theorem put_last (n : Int) (L : List (List Rc)) (r : Rc) : lastR (putR n L r) = r := by
  have key : ∀ (M : List (List Rc)) (y : List Rc), lastR (M ++ [y ++ [r]]) = r := fun M y => by
    unfold lastR
    rw [if_pos (by simp)]
    have e : (M ++ [y ++ [r]]).getD ((M ++ [y ++ [r]]).length - 1) default = y ++ [r] := by simp
    rw [e]
    simp
  unfold putR
  split
  · rename_i h
    rw [set_last h.1]
    exact key _ _
  · exact key L []
theorem WI.add {w : Wr} {A : List Rc} {r : Rc} (h : WI w A) (h0 : addE w r = 0) : WI (addW w r) (A ++ [r]) := by
  obtain ⟨_, ho, hla, had⟩ := addE_0.1 h0
  unfold addW
  rw [if_pos h0]
  refine ⟨h.cl, ?_, put_ch h.ch, fun q hq => ?_, ?_, ?_, .inr ⟨r, by simp, rfl⟩, fun q hq => ?_, ?_⟩
  · rw [put_flat, h.fl]
  · rcases List.mem_append.1 hq with q1 | q1
    · exact h.ok q q1
    · rw [List.mem_singleton.1 q1]; exact ho
  · refine List.pairwise_append.2 ⟨h.pw, List.pairwise_singleton _ _, fun a ha b hb => ?_⟩
    rw [List.mem_singleton.1 hb]
    have := h.tp a ha
    omega
  · simp only [put_last]
  · rcases List.mem_append.1 hq with q1 | q1
    · have := h.tp q q1
      simp only
      omega
    · rw [List.mem_singleton.1 q1]
      exact Int.le_refl _
  · simp only [h.ad, List.length_append, List.length_singleton]
theorem WI.lok {w : Wr} {A : List Rc} (h : WI w A) (hn : A.length ≤ 120) : LOk w.L :=
  ⟨h.ch, by rw [h.fl]; exact h.ok, by rw [h.fl]; exact h.pw, by rw [h.fl]; exact hn⟩
/-- Records that every writer accepts. -/
structure AOk (A : List Rc) : Prop where
  ok : ∀ r ∈ A, okR r
  pw : A.Pairwise fun a b => a.at_ ≤ b.at_
  n : A.length ≤ 120
def wrA (n : Int) (A : List Rc) : Wr := A.foldl addW (newW n)
theorem wrA_snoc (n : Int) (l : List Rc) (r : Rc) : wrA n (l ++ [r]) = addW (wrA n l) r := by simp [wrA]
theorem AOk.run {A : List Rc} (h : AOk A) (n : Int) : ∀ k, k ≤ A.length → WI (wrA n (A.take k)) (A.take k) ∧ (k < A.length → addE (wrA n (A.take k)) (A.getD k default) = 0) := by
  have nx : ∀ k, k < A.length → WI (wrA n (A.take k)) (A.take k) → addE (wrA n (A.take k)) (A.getD k default) = 0 := fun k hk hw => by
    have ho := h.ok _ (mem_getD hk)
    refine addE_0.2 ⟨hw.cl, ho, ?_, by rw [hw.ad, List.length_take]; have := h.n; omega⟩
    rcases hw.lw with q | ⟨r, hr, q⟩
    · rw [q]; exact ho.2.1.1
    · rw [q]
      obtain ⟨i, hi, e⟩ := List.mem_iff_getElem.1 hr
      rw [List.length_take] at hi
      have hp := List.pairwise_iff_getElem.1 h.pw i k (by omega) hk (by omega)
      rw [getD_at hk, ← e, List.getElem_take]
      exact hp
  intro k
  induction k with
  | zero => intro _; exact ⟨WI.new n, fun hk => nx 0 hk (WI.new n)⟩
  | succ k ih =>
    intro hk
    obtain ⟨h1, h2⟩ := ih (by omega)
    have h3 : WI (wrA n (A.take (k + 1))) (A.take (k + 1)) := by
      rw [take_snocG A (by omega), wrA_snoc]
      exact h1.add (h2 (by omega))
    exact ⟨h3, fun hq => nx (k + 1) hq h3⟩
theorem AOk.wr {A : List Rc} (h : AOk A) (n : Int) : WI (wrA n A) A := by
  have := (h.run n A.length (Nat.le_refl _)).1
  rwa [List.take_length] at this
/-- The bag of some records. -/
def madeB (n : Int) (A : List Rc) : List UInt8 := bagB (wrA n A).L
theorem AOk.lok {A : List Rc} (h : AOk A) (n : Int) : LOk (wrA n A).L := (h.wr n).lok h.n
theorem made_len {A : List Rc} (h : AOk A) (n : Int) : (madeB n A).length ≤ 600000 := by
  have hk := h.lok n
  have hl := bagB_len (wrA n A).L
  have h1 := hk.secs
  have h2 := hk.len
  have h4 : (indB (wrA n A).L).length ≤ 20 + 40 * (wrA n A).L.length + 60 * (wrA n A).L.flatten.length := by
    have key : ∀ (M : List (List Rc)) (off : Nat), (∀ r ∈ M.flatten, okR r) → (idxB off M).length ≤ 40 * M.length + 60 * M.flatten.length := by
      intro M
      induction M with
      | nil => intro off _; simp [idxB]
      | cons x M ih =>
        intro off hM
        have g1 := ih (off + (secB x).length) fun r hr => hM r (by rw [List.flatten_cons, List.mem_append]; exact .inr hr)
        have g2 := desB_len (off := off) (fi := (x.getD 0 default).at_.toNat) (la := (x.getD (x.length - 1) default).at_.toNat) (T := tal x) fun t ht => by
          obtain ⟨r, hr, e⟩ := List.mem_map.1 (((tal_inv x).2.1 t.1).1 (List.mem_map.2 ⟨t, ht, rfl⟩))
          rw [← e]; exact (hM r (by rw [List.flatten_cons, List.mem_append]; exact .inl hr)).1.1.2
        have g3 := tal_le x
        rw [List.flatten_cons, List.length_append, List.length_cons, idxB, List.length_append]
        unfold idxE
        omega
    have g := key (wrA n A).L 5 hk.ok
    have v1 := venc_le 2
    have v2 := venc_le (wrA n A).L.length
    unfold indB
    rw [List.length_append, List.length_append]
    omega
  have h5 := sealL_len (indB (wrA n A).L)
  have h6 := textL_len (sealL (indB (wrA n A).L))
  have h7 := hk.n
  unfold madeB
  omega
theorem made_open {A : List Rc} (h : AOk A) (n : Int) : bgE (madeB n A) = 0 ∧ bgO (madeB n A) = bgL (wrA n A).L ∧ BOk (bgL (wrA n A).L) := by
  obtain ⟨h1, h2⟩ := bag_open (h.lok n)
  exact ⟨h1, h2, by rw [← h2]; exact BOk.of h1 (Nat.le_trans (made_len h n) (by decide))⟩
end Go.Proofs.YtenompgpjlbelaaGreatDoor


namespace Go.Proofs.YtenompgpjlbelaaGreatDoor
open Go.X
open P4
open P5
set_option linter.unusedVariables false
/-- The error of the first record that is not accepted. -/
def wrtE : Wr → List Rc → Nat
  | _, [] => 0
  | w, r :: l => if addE w r ≠ 0 then addE w r else wrtE (addW w r) l
theorem wrtE_app : ∀ (w : Wr) (l m : List Rc), wrtE w (l ++ m) = if wrtE w l ≠ 0 then wrtE w l else wrtE (l.foldl addW w) m
  | w, [], m => by rw [List.nil_append]; exact (if_neg (not_not_intro rfl)).symm
  | w, r :: l, m => by
    rw [List.cons_append, wrtE, wrtE, List.foldl_cons]
    by_cases h : addE w r ≠ 0
    · rw [if_pos h, if_pos h, if_pos h]
    · rw [if_neg h, if_neg h]
      exact wrtE_app (addW w r) l m
theorem wrtE_pre {w : Wr} {l m : List Rc} (h : wrtE w (l ++ m) = 0) : wrtE w l = 0 := by
  rw [wrtE_app] at h
  split at h
  · exact h
  · rename_i q; exact Decidable.of_not_not q
theorem wrtE_snoc0 {w : Wr} {l : List Rc} {x : Rc} (h : wrtE w l = 0) (hx : addE (l.foldl addW w) x = 0) : wrtE w (l ++ [x]) = 0 := by
  rw [wrtE_app, if_neg (not_not_intro h), wrtE, if_neg (not_not_intro hx)]
  rfl
theorem wrtE_hit {w : Wr} {l m : List Rc} {x : Rc} (h : wrtE w l = 0) (hx : addE (l.foldl addW w) x ≠ 0) : wrtE w (l ++ x :: m) = addE (l.foldl addW w) x := by
  rw [wrtE_app, if_neg (not_not_intro h), wrtE, if_pos hx]
theorem wrtE_WI (n : Int) (A : List Rc) (h : wrtE (newW n) A = 0) : WI (wrA n A) A := by
  suffices ∀ k, k ≤ A.length → WI (wrA n (A.take k)) (A.take k) by
    have := this A.length (Nat.le_refl _)
    rwa [List.take_length] at this
  intro k
  induction k with
  | zero => intro _; exact WI.new n
  | succ k ih =>
    intro hk
    have hw := ih (by omega)
    have e := take_snocG A (show k < A.length by omega)
    have h2 : wrtE (newW n) (A.take (k + 1)) = 0 := wrtE_pre (m := A.drop (k + 1)) (by rw [List.take_append_drop]; exact h)
    have h4 : wrtE (newW n) (A.take k) = 0 := wrtE_pre (m := [A.getD k default]) (by rw [← e]; exact h2)
    rw [e, wrtE_app, if_neg (not_not_intro h4)] at h2
    have h3 : addE (wrA n (A.take k)) (A.getD k default) = 0 := by
      unfold wrtE at h2
      split at h2
      · exact h2
      · rename_i q; exact Decidable.of_not_not q
    rw [e, wrA_snoc]
    exact hw.add h3
def badC (n : Int) : Prop := n < 1 ∨ 65536 < n
instance (n : Int) : Decidable (badC n) := by unfold badC; infer_instance
/-- The error of writing records with chunks of n bytes, and the string. -/
def wtE (n : Int) (A : List Rc) : Nat := if badC n then 4 else wrtE (newW n) A
def wtS (n : Int) (A : List Rc) : List UInt8 := if wtE n A = 0 then madeB n A else []
theorem wtE_ok {n : Int} {A : List Rc} (h : wtE n A = 0) : ¬ badC n ∧ wrtE (newW n) A = 0 := by
  unfold wtE at h
  split at h
  · cases h
  · rename_i q; exact ⟨q, h⟩
theorem wtE_AOk {n : Int} {A : List Rc} (h : wtE n A = 0) (hA : A.length ≤ 120) : AOk A := by
  have hw := wrtE_WI n A (wtE_ok h).2
  exact ⟨hw.ok, hw.pw, hA⟩
/-- All records of the bag of some records. -/
theorem selR_all {A : List Rc} (h : AOk A) : selR [] 0 1099511627777 A = A := by
  unfold selR
  rw [List.filter_eq_self]
  intro r hr
  have := (h.ok r hr).2.1
  exact decide_eq_true ⟨.inl rfl, by omega, by omega⟩
theorem made_all {A : List Rc} (h : AOk A) (n : Int) : bgE (madeB n A) = 0 ∧ readB (bgO (madeB n A)) [] 0 1099511627777 = (A, 0) := by
  obtain ⟨h1, h2, _⟩ := made_open h n
  refine ⟨h1, ?_⟩
  rw [h2, read_bag (h.lok n), (h.wr n).fl, selR_all h]
theorem AOk.tm {A : List Rc} (h : AOk A) : ∀ r ∈ A, 0 ≤ r.at_ ∧ r.at_ ≤ 1099511627776 := fun r hr => (h.ok r hr).2.1
theorem WI.xsA {w : Wr} {A : List Rc} (h : WI w A) (hn : A.length ≤ 120) {X : List Ch} (hX : X.map Ch.l = w.L) :
    X.length ≤ 120 ∧ (∀ x ∈ X, 0 < x.l.length ∧ x.l.length ≤ 120 ∧ (∀ q ∈ x.l, okR q)) ∧ (∀ x ∈ X, x.l.length ≤ 100000 ∧ (conB x.l).length ≤ 1000000) ∧ w.ad ≤ 120 := by
  have hk := h.lok hn
  have h1 := hk.len
  rw [← hX, List.length_map] at h1
  have h2 : ∀ x ∈ X, 0 < x.l.length ∧ x.l.length ≤ 120 ∧ (∀ q ∈ x.l, okR q) := fun x hx => by
    have hm : x.l ∈ w.L := by rw [← hX]; exact List.mem_map.2 ⟨x, hx, rfl⟩
    have h3 := hk.okX _ hm
    have h4 := (LOk.sub hm).length_le
    have h5 := hk.n
    exact ⟨h3.1, by omega, h3.2.2⟩
  refine ⟨h1, h2, fun x hx => ?_, by rw [h.ad]; exact hn⟩
  obtain ⟨_, h4, h5⟩ := h2 x hx
  have := conB_len h5
  omega
/-- How far a recording came: the machine behind it. -/
def far (n : Int) (m : Mc) (l : List Rc) (ct : Nat) : Prop :=
  (badC n → ct = m.ct) ∧ (wtE n (recM m l) = 0 → ct = m.ct + l.length) ∧
  (¬ badC n → wtE n (recM m l) ≠ 0 → ∃ i, i < l.length ∧ wtE n (recM m (l.take i)) = 0 ∧ wtE n (recM m (l.take (i + 1))) ≠ 0 ∧ (ct = m.ct + i ∨ ct = m.ct + i + 1))
theorem recM_app : ∀ (m : Mc) (a b : List Rc), recM m (a ++ b) = recM m a ++ recM (stL m a) b
  | m, [], b => rfl
  | m, r :: a, b => by
    show rec1 m r ++ recM (stM m r) (a ++ b) = rec1 m r ++ recM (stM m r) a ++ recM (stL (stM m r) a) b
    rw [recM_app (stM m r) a b, List.append_assoc]
theorem recM_tail (m : Mc) (l : List Rc) (i : Nat) : recM m l = recM m (l.take i) ++ recM (stL m (l.take i)) (l.drop i) := by
  rw [← recM_app, List.take_append_drop]
theorem fail_far {n : Int} {m : Mc} {l B R1 : List Rc} {i ct : Nat} {y : Rc} (hb : ¬ badC n) (hi : i < l.length) (h0 : wrtE (newW n) (recM m (l.take i)) = 0) (hB : wrtE (newW n) B = 0)
    (hr : recM m (l.take (i + 1)) = B ++ y :: R1) (hy : addE (wrA n B) y ≠ 0) (hct : ct = m.ct + i ∨ ct = m.ct + i + 1) :
    wtE n (recM m l) = addE (wrA n B) y ∧ wtS n (recM m l) = [] ∧ far n m l ct := by
  have e1 : wtE n (recM m l) = addE (wrA n B) y := by
    unfold wtE
    rw [if_neg hb, recM_tail m l (i + 1), hr, List.append_assoc]
    exact wrtE_hit hB hy
  have e2 : wtE n (recM m (l.take (i + 1))) = addE (wrA n B) y := by
    unfold wtE
    rw [if_neg hb, hr]
    exact wrtE_hit hB hy
  refine ⟨e1, by unfold wtS; rw [e1, if_neg hy], fun q => absurd q hb, fun q => absurd (e1.symm.trans q) hy, fun _ _ => ⟨i, hi, ?_, by rw [e2]; exact hy, hct⟩⟩
  unfold wtE
  rw [if_neg hb, h0]
end Go.Proofs.YtenompgpjlbelaaGreatDoor


namespace Go.Proofs.YtenompgpjlbelaaGreatDoor
open Go.X
set_option linter.unusedSimpArgs false
set_option linter.unusedVariables false
open P4
open P5
theorem encCh_rkA (X : List Ch) (i : Nat) : List.map (C.rk [Sg.whole 2, Sg.whole 3, Sg.whole 4] 6) (encCh 4 X i) = encCh 7 X i := rfl
theorem encCh_rkB (X : List Ch) (i : Nat) : List.map (C.rk [Sg.whole 2, Sg.whole 3, Sg.whole 4] 7) (encCh 4 X i) = encCh 8 X i := rfl
theorem rH42zlS0 {σ : List Sg} {H h' : List Fam} {v : T} {K : T → List Fam → Prop} {H' : List Fam} {v' : T} {N : Nat} (hk : K v' H') (hN : H.length = N := by (try simp only [↓List.length_cons, ↓List.length_nil, Nat.reduceAdd]) <;> rfl) (h : givesF σ N H σ h' = some H' := by (try simp (maxSteps := 1000000) only [givesF, setF, updF, Fam.zeroth, Fam.rk, Ck.rk, C.rk, E.rk, T.rk, key, List.map_cons, List.map_nil, List.cons_append, List.nil_append, List.length_cons, List.length_nil, Option.map_some, Option.bind_some, Nat.reduceAdd, Nat.zero_add, Nat.add_zero, Nat.add_sub_cancel_left, Int.toNat_natCast, reps, List.all_cons, List.all_nil, C.flat, List.append_eq, Bool.not_true, Bool.and_true, Bool.or_false, Bool.or_self, Bool.not_false, List.append_nil, Bool.and_self, ↓chG_rk]) <;> rfl) (hv : v.rk σ N = v' := by (try simp only [givesF, setF, updF, Fam.zeroth, Fam.rk, Ck.rk, C.rk, E.rk, T.rk, key, List.map_cons, List.map_nil, List.cons_append, List.nil_append, List.length_cons, List.length_nil, Option.map_some, Option.bind_some, Nat.reduceAdd, Nat.zero_add, Nat.add_zero, Nat.add_sub_cancel_left, Int.toNat_natCast, reps, List.all_cons, List.all_nil, C.flat, List.append_eq, Bool.not_true, Bool.and_true, Bool.or_false, Bool.or_self, Bool.not_false, List.append_nil, Bool.and_self, ↓chG_rk]) <;> rfl) : RetG σ H h' v K := ret_mk3 hN h hv hk
theorem rH42zlS1 {σ : List Sg} {H h' : List Fam} {v : T} {K : T → List Fam → Prop} {H' : List Fam} {v' : T} {N : Nat} (hk : K v' H') (hN : H.length = N := by (try simp only [↓List.length_cons, ↓List.length_nil, Nat.reduceAdd]) <;> rfl) (h : givesF σ N H σ h' = some H' := by (try simp (maxSteps := 1000000) only [givesF, setF, updF, Fam.zeroth, Fam.rk, Ck.rk, C.rk, E.rk, T.rk, key, List.map_cons, List.map_nil, List.cons_append, List.nil_append, List.length_cons, List.length_nil, Option.map_some, Option.bind_some, Nat.reduceAdd, Nat.zero_add, Nat.add_zero, Nat.add_sub_cancel_left, Int.toNat_natCast, reps, List.all_cons, List.all_nil, C.flat, List.append_eq, Bool.not_true, Bool.and_true, Bool.or_false, Bool.or_self, Bool.not_false, List.append_nil, Bool.and_self, ↓chG_rk, encCh_rkA, encR]) <;> rfl) (hv : v.rk σ N = v' := by (try simp only [givesF, setF, updF, Fam.zeroth, Fam.rk, Ck.rk, C.rk, E.rk, T.rk, key, List.map_cons, List.map_nil, List.cons_append, List.nil_append, List.length_cons, List.length_nil, Option.map_some, Option.bind_some, Nat.reduceAdd, Nat.zero_add, Nat.add_zero, Nat.add_sub_cancel_left, Int.toNat_natCast, reps, List.all_cons, List.all_nil, C.flat, List.append_eq, Bool.not_true, Bool.and_true, Bool.or_false, Bool.or_self, Bool.not_false, List.append_nil, Bool.and_self, ↓chG_rk, encCh_rkA, encR]) <;> rfl) : RetG σ H h' v K := ret_mk3 hN h hv hk
theorem rH42zlS2 {σ : List Sg} {H h' : List Fam} {v : T} {K : T → List Fam → Prop} {H' : List Fam} {v' : T} {N : Nat} (hk : K v' H') (hN : H.length = N := by (try simp only [↓List.length_cons, ↓List.length_nil, Nat.reduceAdd]) <;> rfl) (h : givesF σ N H σ h' = some H' := by (try simp (maxSteps := 1000000) only [givesF, setF, updF, Fam.zeroth, Fam.rk, Ck.rk, C.rk, E.rk, T.rk, key, List.map_cons, List.map_nil, List.cons_append, List.nil_append, List.length_cons, List.length_nil, Option.map_some, Option.bind_some, Nat.reduceAdd, Nat.zero_add, Nat.add_zero, Nat.add_sub_cancel_left, Int.toNat_natCast, reps, List.all_cons, List.all_nil, C.flat, List.append_eq, Bool.not_true, Bool.and_true, Bool.or_false, Bool.or_self, Bool.not_false, List.append_nil, Bool.and_self, ↓chG_rk, encCh_rkB, encR]) <;> rfl) (hv : v.rk σ N = v' := by (try simp only [givesF, setF, updF, Fam.zeroth, Fam.rk, Ck.rk, C.rk, E.rk, T.rk, key, List.map_cons, List.map_nil, List.cons_append, List.nil_append, List.length_cons, List.length_nil, Option.map_some, Option.bind_some, Nat.reduceAdd, Nat.zero_add, Nat.add_zero, Nat.add_sub_cancel_left, Int.toNat_natCast, reps, List.all_cons, List.all_nil, C.flat, List.append_eq, Bool.not_true, Bool.and_true, Bool.or_false, Bool.or_self, Bool.not_false, List.append_nil, Bool.and_self, ↓chG_rk, encCh_rkB, encR]) <;> rfl) : RetG σ H h' v K := ret_mk3 hN h hv hk
theorem cH42zlS3 {P : Program} {F : Nat} {args : List T} {H : List Fam} {K : T → List Fam → Prop} {σ : List Sg} {nl : List Fam} {args0 : List T} {h0 : List Fam} {Q : T → List Fam → Prop} {H2 H1 : List Fam} {N n : Nat} (hc : Ctr P F args0 h0 Q) (hk : ∀ v h', Q v h' → capsP h' → RetG σ H2 h' v K) (hap : apart σ = true := by rfl) (hnl : nl.all nilB = true := by rfl) (h1 : H ++ nl = H1 := by first | exact List.append_nil _ | ((try simp only [List.cons_append, List.nil_append]) <;> rfl)) (hN : H1.length = N := by (try simp only [↓List.length_cons, ↓List.length_nil, Nat.reduceAdd]) <;> rfl) (hn : H.length = n := by (try simp only [↓List.length_cons, ↓List.length_nil, Nat.reduceAdd]) <;> rfl) (hH : givesF σ N H1 σ h0 = some H2 := by (try simp (maxSteps := 1000000) only [givesF, setF, updF, Fam.zeroth, Fam.rk, Ck.rk, C.rk, E.rk, T.rk, key, List.map_cons, List.map_nil, List.cons_append, List.nil_append, List.length_cons, List.length_nil, Option.map_some, Option.bind_some, Nat.reduceAdd, Nat.zero_add, Nat.add_zero, Nat.add_sub_cancel_left, Int.toNat_natCast, reps, List.all_cons, List.all_nil, C.flat, List.append_eq, Bool.not_true, Bool.and_true, Bool.or_false, Bool.or_self, Bool.not_false, List.append_nil, Bool.and_self, ↓chG_rk]) <;> rfl) (hle : leS n H1 σ N σ h0 (belsK N (h0.map (Fam.rk σ N)) (argsK n args (args0.map (T.rk σ N)) True)) := by repeat' first | refine And.intro ?_ ?_ | exact xeC | fail) : CallK P F args H K := CallK.mk3 hc hap hnl h1 hN hn hH hle hk
set_option maxRecDepth 10000 in
set_option maxHeartbeats 16000000 in
theorem crecord (n : Int) (m : Mc) (w : Bool) (l : List Rc) (c : Nat) (hst : m.st < 1009) (hct : m.ct ≤ 100000) (hl : fewL l) :
    Ctr Tryz.prog 11 [.c (.ifp 26 0 0 0), .c (.sl 1 0 3 0 l.length c), .c (.i .i64 n)] [.one (mch m), .one (rcR w l c)]
      fun v h => ∃ m', far n m l m'.ct ∧ v = .t [.c (.s (mkS (wtS n (recM m l)))), .c (.i .i64 (wtE n (recM m l) : Nat))] ∧ h = [.one (mch m'), .one (rcR w l c)] := by
  have hll := hl.1
  refine Ctr.mk' tbv mixed Tryz.func11 rfl rfl rfl (fun _ _ => by kernel_rfl) (by kernel_rfl) (by rfl) (by rfl) (by (repeat' first | refine And.intro ?_ ?_ | exact xeC | fail) <;> (exact xmC)) ?_
  repeat' (first | (fail_if_success (with_reducible refine xstp ?_)); first | (with_reducible intro hc; (try simp only [capsP, and_true] at hc); (try exact xfC)) | ((fail_if_success (with_reducible first | refine xgon ?_ | intro _)); (conv => whnf); (fail_if_success (fail_if_success (with_reducible first | refine xstp ?_ | refine xgon ?_ | intro _)))))
  refine cH42zlS3 (σ := []) (nl := []) (cNewW n) ?_
  rintro v h' hq hcaps
  rcases hq with ⟨hq, rfl, rfl⟩ | ⟨hn, rfl, rfl⟩
  · have h0 : wtE n (recM m l) = 4 := if_pos hq
    have h1 : wtS n (recM m l) = [] := by unfold wtS; rw [h0]; exact if_neg (by decide)
    rw [h0, h1]
    refine rH42zlS0 ?_
    repeat' (first | (fail_if_success (with_reducible refine xstp ?_)); first | ((with_reducible refine And.intro (fun (hb : _ = true) => ?_) (fun (hb : _ = false) => ?_)) <;> replace hb := xnC hb <;> (try first | exact xfC | exact bff hb (by assumption) | exact bff (by assumption) hb)) | ((fail_if_success (with_reducible first | refine xgon ?_ | intro _)); (conv => whnf); (fail_if_success (fail_if_success (with_reducible first | refine xstp ?_ | refine xgon ?_ | intro _)))))
    refine FinK.mk ⟨[0, 1], _, _, ⟨m, ⟨fun _ => rfl, fun q => ?_, fun q => absurd hq q⟩, rfl, rfl⟩, ?_⟩
    · rw [h0] at q; exact absurd q (by decide)
    · (repeat' first | refine And.intro ?_ ?_ | exact xeC | fail)
  have hb0 : ¬ badC n := by unfold badC; omega
  have hE : wtE n (recM m l) = wrtE (newW n) (recM m l) := if_neg hb0
  refine rH42zlS0 ?_
  repeat' (first | (fail_if_success (with_reducible refine xstp ?_)); first | ((with_reducible refine And.intro (fun (hb : _ = true) => ?_) (fun (hb : _ = false) => ?_)) <;> replace hb := xnC hb <;> (try first | exact xfC | exact bff hb (by assumption) | exact bff (by assumption) hb)) | ((fail_if_success (with_reducible first | refine xgon ?_ | intro _)); (conv => whnf); (fail_if_success (fail_if_success (with_reducible first | refine xstp ?_ | refine xgon ?_ | intro _)))))
  refine LoopK.mk' {p : Nat × List Ch × Nat // p.1 ≤ l.length ∧ wrtE (newW n) (recM m (l.take p.1)) = 0 ∧ p.2.1.map Ch.l = (wrA n (recM m (l.take p.1))).L}
    (fun ⟨(i, X, c1), _⟩ => ⟨[(0, .c (.ifp 26 0 0 0)), (8, .c (.p 2 0 0)), (26, .c (.sl 1 0 3 0 l.length c)), (27, .c (.i .i64 (l.length : Nat))), (28, .c (.i .i64 (i : Nat)))],
      [.one (mch (stL m (l.take i))), .one (rcR w l c), .one (wrC (wrA n (recM m (l.take i))) 3 X.length c1), .one (chR 4 X c1), .many (chG X)]⟩) (fun p => l.length - p.1.1)
    ⟨⟨(0, [], 0), Nat.zero_le _, rfl, rfl⟩, [0, 1, 2, 3, 4], ?_⟩ ?_
  · (repeat' first | refine And.intro ?_ ?_ | exact xeC | fail)
    all_goals first
      | (exact xmC)
      | skip
  rintro ⟨⟨i, X, c1⟩, hi, hz, hX⟩
  simp only at hi hz hX
  have e2 : 0 + ((i : Nat) : Int).toNat = i := by omega
  have hW := wrtE_WI n _ hz
  have hB0 : (recM m (l.take i)).length ≤ 3 * i := by
    have := recM_len m (l.take i)
    rw [List.length_take] at this
    omega
  have hxs := hW.xsA (by omega) hX
  have hMs : (stL m (l.take i)).st < 1009 := stL_st _ _ hst
  have hMc : (stL m (l.take i)).ct = m.ct + i := by rw [stL_ct, List.length_take]; omega
  rcases Nat.lt_or_ge i l.length with hlt | hge
  · obtain ⟨hp1, hp2⟩ := hl.2 i hlt
    have hts := take_snocG l hlt
    have hr := recM_snoc m (l.take i) (l.getD i default)
    have hs := stL_snoc m (l.take i) (l.getD i default)
    rw [← hts] at hr hs
    have z1 : (mkS (l.getD i default).tp).size = (l.getD i default).tp.length := rfl
    have hin : (⟨#[105, 110, 47]⟩ : ByteArray) ++ mkS (l.getD i default).tp = mkS (inT ++ (l.getD i default).tp) := mkS_append inT _
    repeat' (first | (fail_if_success (with_reducible refine xstp ?_)); first | ((with_reducible refine And.intro (fun (hb : _ = true) => ?_) (fun (hb : _ = false) => ?_)) <;> replace hb := xnC hb <;> (try first | exact xfC | exact bff hb (by assumption) | exact bff (by assumption) hb)) | ((with_reducible refine And.intro ?_ ?_); focus exact xoC) | (with_reducible intro hc; (try simp only [capsP, and_true] at hc); (try exact xfC)) | ((fail_if_success (with_reducible first | refine xgon ?_ | intro _)); (conv => whnf); (fail_if_success (fail_if_success (with_reducible first | refine xstp ?_ | refine xgon ?_ | intro _)))))
    rw [e2]
    refine ⟨?_, ?_⟩
    · rw [z1]
      show 3 + _ ≤ _
      omega
    repeat' (first | (fail_if_success (with_reducible refine xstp ?_)); first | ((fail_if_success (with_reducible first | refine xgon ?_ | intro _)); (conv => whnf); (fail_if_success (fail_if_success (with_reducible first | refine xstp ?_ | refine xgon ?_ | intro _)))))
    rw [hin]
    generalize hx : l.getD i default = x at *
    have hxl : (inT ++ x.tp).length ≤ 100 := by
      rw [List.length_append]
      show 3 + _ ≤ _
      omega
    refine cH42zlS3 (σ := [.whole 2, .whole 3, .whole 4]) (nl := []) (cAddW (wrA n (recM m (l.take i))) X c1 (recI x) hX (show (inT ++ x.tp).length ≤ _ by omega) (by omega) hxs.2.2.1 (by omega)) ?_ (hle := by (repeat' first | refine And.intro ?_ ?_ | exact xeC | fail) <;> (exact xmC))
    rintro v h' ⟨X1, c2, hX1, rfl, rfl⟩ hcaps
    refine rH42zlS1 ?_
    by_cases h0 : addE (wrA n (recM m (l.take i))) (recI x) = 0
    · have hz1 := wrtE_snoc0 hz h0
      have hru := wrA_snoc n (recM m (l.take i)) (recI x)
      rw [← hru] at hX1 ⊢
      rw [h0]
      repeat' (first | (fail_if_success (with_reducible refine xstp ?_)); first | ((with_reducible refine And.intro (fun (hb : _ = true) => ?_) (fun (hb : _ = false) => ?_)) <;> replace hb := xnC hb <;> (try first | exact xfC | exact bff hb (by assumption) | exact bff (by assumption) hb)) | ((fail_if_success (with_reducible first | refine xgon ?_ | intro _)); (conv => whnf); (fail_if_success (fail_if_success (with_reducible first | refine xstp ?_ | refine xgon ?_ | intro _)))))
      refine cH42zlS3 (σ := [.whole 0]) (nl := []) (crecorded (stL m (l.take i)) x hMs (by omega) (by omega) (by omega)) ?_
      have hY0 := out_len (stM (stL m (l.take i)) x)
      have hst1 : (stM (stL m (l.take i)) x).st < 1009 := Nat.mod_lt _ (by decide)
      have hmem : ∀ r ∈ (outM (stM (stL m (l.take i)) x)).map (recO x.at_), r.tp.length ≤ 20 := by
        intro r hr
        obtain ⟨y, hy, rfl⟩ := List.mem_map.1 hr
        have := (out_mem hy hst1).1
        show (ouT ++ y.1).length ≤ 20
        rw [List.length_append]
        show 4 + _ ≤ 20
        omega
      have hr1 : rec1 (stL m (l.take i)) x = recI x :: (outM (stM (stL m (l.take i)) x)).map (recO x.at_) := rfl
      rw [hr1] at hr
      rw [← hs] at hst1 hr hmem ⊢
      have hYl : ((outM (stL m (l.take (i + 1)))).map (recO x.at_)).length ≤ 2 := by rw [List.length_map, hs, hY0]; omega
      generalize (outM (stL m (l.take (i + 1)))).map (recO x.at_) = Y at *
      rintro v h' ⟨cy, rfl, rfl⟩ hcaps
      refine rH42zlS1 ?_
      repeat' (first | (fail_if_success (with_reducible refine xstp ?_)); first | ((fail_if_success (with_reducible first | refine xgon ?_ | intro _)); (conv => whnf); (fail_if_success (fail_if_success (with_reducible first | refine xstp ?_ | refine xgon ?_ | intro _)))))
      refine LoopK.mk' {p : Nat × List Ch × Nat // p.1 ≤ Y.length ∧ wrtE (newW n) (recM m (l.take i) ++ [recI x] ++ Y.take p.1) = 0 ∧ p.2.1.map Ch.l = (wrA n (recM m (l.take i) ++ [recI x] ++ Y.take p.1)).L}
        (fun ⟨(j, X, c1), _⟩ => ⟨[(0, .c (.ifp 26 0 0 0)), (8, .c (.p 2 0 0)), (26, .c (.sl 1 0 3 0 l.length c)), (27, .c (.i .i64 (l.length : Nat))), (28, .c (.i .i64 (i : Nat))), (47, .c (.sl 5 0 3 0 Y.length cy)), (48, .c (.i .i64 (Y.length : Nat))), (49, .c (.i .i64 (j : Nat)))],
          [.one (mch (stL m (l.take (i + 1)))), .one (rcR w l c), .one (wrC (wrA n (recM m (l.take i) ++ [recI x] ++ Y.take j)) 3 X.length c1), .one (chR 4 X c1), .many (chG X), .one (rcR true Y cy)]⟩) (fun p => Y.length - p.1.1)
        ⟨⟨(0, X1, c2), Nat.zero_le _, by simp only [List.take_zero, List.append_nil]; exact hz1, by simp only [List.take_zero, List.append_nil]; exact hX1⟩, [0, 1, 2, 6, 7, 8], ?_⟩ ?_
      · simp only [List.take_zero, List.append_nil]
        (repeat' first | refine And.intro ?_ ?_ | exact xeC | fail)
        all_goals first
          | (exact xmC)
          | skip
      rintro ⟨⟨j, X3, c3⟩, hj, hz3, hX3⟩
      simp only at hj hz3 hX3
      have f2 : 0 + ((j : Nat) : Int).toNat = j := by omega
      have hW3 := wrtE_WI n _ hz3
      have hxs3 := hW3.xsA (by rw [List.length_append, List.length_append, List.length_take]; show _ + 1 + _ ≤ _; omega) hX3
      rcases Nat.lt_or_ge j Y.length with hjt | hjg
      · have hYs := take_snocG Y hjt
        have hm1 := hmem (Y.getD j default) (mem_getD hjt)
        have hru3 := wrA_snoc n (recM m (l.take i) ++ [recI x] ++ Y.take j) (Y.getD j default)
        have hYd : Y = Y.take j ++ Y.getD j default :: Y.drop (j + 1) := by rw [← drop_consG Y hjt, List.take_append_drop]
        repeat' (first | (fail_if_success (with_reducible refine xstp ?_)); first | ((with_reducible refine And.intro (fun (hb : _ = true) => ?_) (fun (hb : _ = false) => ?_)) <;> replace hb := xnC hb <;> (try first | exact xfC | exact bff hb (by assumption) | exact bff (by assumption) hb)) | ((with_reducible refine And.intro ?_ ?_); focus exact xoC) | (with_reducible intro hc; (try simp only [capsP, and_true] at hc); (try exact xfC)) | ((fail_if_success (with_reducible first | refine xgon ?_ | intro _)); (conv => whnf); (fail_if_success (fail_if_success (with_reducible first | refine xstp ?_ | refine xgon ?_ | intro _)))))
        rw [f2]
        refine cH42zlS3 (σ := [.whole 2, .whole 3, .whole 4]) (nl := []) (cAddW (wrA n (recM m (l.take i) ++ [recI x] ++ Y.take j)) X3 c3 (Y.getD j default) hX3 (by omega) (by omega) hxs3.2.2.1 (by omega)) ?_ (hle := by (repeat' first | refine And.intro ?_ ?_ | exact xeC | fail) <;> (exact xmC))
        rintro v h' ⟨X4, c4, hX4, rfl, rfl⟩ hcaps
        refine rH42zlS2 ?_
        by_cases h4 : addE (wrA n (recM m (l.take i) ++ [recI x] ++ Y.take j)) (Y.getD j default) = 0
        · rw [h4]
          repeat' (first | (fail_if_success (with_reducible refine xstp ?_)); first | ((with_reducible refine And.intro (fun (hb : _ = true) => ?_) (fun (hb : _ = false) => ?_)) <;> replace hb := xnC hb <;> (try first | exact xfC | exact bff hb (by assumption) | exact bff (by assumption) hb)) | ((with_reducible refine OvK.fit ?_ ?_); focus exact xoC) | ((fail_if_success (with_reducible first | refine xgon ?_ | intro _)); (conv => whnf); (fail_if_success (fail_if_success (with_reducible first | refine xstp ?_ | refine xgon ?_ | intro _)))))
          refine ⟨⟨(j + 1, X4, c4), hjt, by simp only [hYs, ← List.append_assoc]; exact wrtE_snoc0 hz3 h4, by simp only [hYs, ← List.append_assoc]; rw [hru3]; exact hX4⟩, [0, 1, 2, 7, 8, 5], by simp only; omega, ?_⟩
          simp only [hYs, ← List.append_assoc, hru3]
          (repeat' first | refine And.intro ?_ ?_ | exact xeC | fail)
          all_goals first
            | (exact xmC)
            | skip
        · have hq4 : recM m (l.take (i + 1)) = recM m (l.take i) ++ [recI x] ++ Y.take j ++ Y.getD j default :: Y.drop (j + 1) := by
            rw [hr]
            conv => lhs; rw [hYd]
            simp only [List.append_assoc, List.cons_append, List.nil_append]
          obtain ⟨q1, q2, q3⟩ := fail_far (ct := m.ct + i + 1) (R1 := Y.drop (j + 1)) hb0 hlt hz hz3 hq4 h4 (.inr rfl)
          rw [q1, q2]
          generalize addE (wrA n (recM m (l.take i) ++ [recI x] ++ Y.take j)) (Y.getD j default) = e at *
          repeat' (first | (fail_if_success (with_reducible refine xstp ?_)); first | ((with_reducible refine And.intro (fun (hb : _ = true) => ?_) (fun (hb : _ = false) => ?_)) <;> replace hb := xnC hb <;> (try first | exact xfC | exact bff hb (by assumption) | exact bff (by assumption) hb)) | ((fail_if_success (with_reducible first | refine xgon ?_ | intro _)); (conv => whnf); (fail_if_success (fail_if_success (with_reducible first | refine xstp ?_ | refine xgon ?_ | intro _)))))
          refine FinK.mk ⟨[0, 1], _, _, ⟨stL m (l.take (i + 1)), ?_, rfl, rfl⟩, ?_⟩
          · rw [hs]
            show far n m l ((stL m (l.take i)).ct + 1)
            rw [hMc]
            exact q3
          · (repeat' first | refine And.intro ?_ ?_ | exact xeC | fail)
      · have hB : recM m (l.take i) ++ [recI x] ++ Y.take j = recM m (l.take (i + 1)) := by rw [hr, List.take_of_length_le hjg]; simp
        repeat' (first | (fail_if_success (with_reducible refine xstp ?_)); first | ((with_reducible refine And.intro (fun (hb : _ = true) => ?_) (fun (hb : _ = false) => ?_)) <;> replace hb := xnC hb <;> (try first | exact xfC | exact bff hb (by assumption) | exact bff (by assumption) hb)) | ((with_reducible refine OvK.fit ?_ ?_); focus exact xoC) | (with_reducible intro hc; (try simp only [capsP, and_true] at hc); (try exact xfC)) | ((fail_if_success (with_reducible first | refine xgon ?_ | intro _)); (conv => whnf); (fail_if_success (fail_if_success (with_reducible first | refine xstp ?_ | refine xgon ?_ | intro _)))))
        refine ⟨⟨(i + 1, X3, c3), hlt, by simp only; rw [← hB]; exact hz3, by simp only; rw [← hB]; exact hX3⟩, [0, 1, 2, 3, 4], by simp only; omega, ?_⟩
        simp only [hB]
        (repeat' first | refine And.intro ?_ ?_ | exact xeC | fail)
        all_goals first
          | (exact xmC)
          | skip
    · obtain ⟨q1, q2, q3⟩ := fail_far (ct := m.ct + i) (R1 := (outM (stM (stL m (l.take i)) x)).map (recO x.at_)) hb0 hlt hz hz hr h0 (.inl rfl)
      rw [q1, q2]
      generalize addE (wrA n (recM m (l.take i))) (recI x) = e at *
      repeat' (first | (fail_if_success (with_reducible refine xstp ?_)); first | ((with_reducible refine And.intro (fun (hb : _ = true) => ?_) (fun (hb : _ = false) => ?_)) <;> replace hb := xnC hb <;> (try first | exact xfC | exact bff hb (by assumption) | exact bff (by assumption) hb)) | ((fail_if_success (with_reducible first | refine xgon ?_ | intro _)); (conv => whnf); (fail_if_success (fail_if_success (with_reducible first | refine xstp ?_ | refine xgon ?_ | intro _)))))
      refine FinK.mk ⟨[0, 1], _, _, ⟨stL m (l.take i), ?_, rfl, rfl⟩, ?_⟩
      · rw [hMc]; exact q3
      · (repeat' first | refine And.intro ?_ ?_ | exact xeC | fail)
  · obtain rfl : i = l.length := by omega
    rw [List.take_length] at hz hMc
    have hmk : XOk X := ⟨by omega, fun x hx => by have := hxs.2.1 x hx; exact ⟨this.1, by omega, this.2.2⟩⟩
    have hcl := hW.cl
    have h0 : wtE n (recM m l) = 0 := by rw [hE, hz]
    have hS : wtS n (recM m l) = madeB n (recM m l) := if_pos h0
    repeat' (first | (fail_if_success (with_reducible refine xstp ?_)); first | ((with_reducible refine And.intro (fun (hb : _ = true) => ?_) (fun (hb : _ = false) => ?_)) <;> replace hb := xnC hb <;> (try first | exact xfC | exact bff hb (by assumption) | exact bff (by assumption) hb)) | (with_reducible intro hc; (try simp only [capsP, and_true] at hc); (try exact xfC)) | ((fail_if_success (with_reducible first | refine xgon ?_ | intro _)); (conv => whnf); (fail_if_success (fail_if_success (with_reducible first | refine xstp ?_ | refine xgon ?_ | intro _)))))
    refine cH42zlS3 (σ := [.whole 2, .whole 3, .whole 4]) (nl := []) (cCloseW (wrA n (recM m (l.take l.length))) X c1 hmk hX) ?_ (hle := by (repeat' first | refine And.intro ?_ ?_ | exact xeC | fail) <;> (exact xmC))
    rw [List.take_length] at hcl ⊢
    rw [if_neg (by rw [hcl]; decide), if_neg (by rw [hcl]; decide), h0, hS]
    rintro v h' ⟨rfl, rfl⟩ hcaps
    refine rH42zlS0 ?_
    repeat' (first | (fail_if_success (with_reducible refine xstp ?_)); first | ((fail_if_success (with_reducible first | refine xgon ?_ | intro _)); (conv => whnf); (fail_if_success (fail_if_success (with_reducible first | refine xstp ?_ | refine xgon ?_ | intro _)))))
    refine FinK.mk ⟨[0, 1], _, _, ⟨stL m l, ⟨fun q => absurd q hb0, fun _ => hMc, fun _ q => absurd h0 q⟩, rfl, rfl⟩, ?_⟩
    (repeat' first | refine And.intro ?_ ?_ | exact xeC | fail)
end Go.Proofs.YtenompgpjlbelaaGreatDoor


namespace Go.Proofs.YtenompgpjlbelaaGreatDoor
open Go.X
set_option linter.unusedSimpArgs false
set_option linter.unusedVariables false
open P4
open P5
theorem rplS_rec (m : Mc) (l : List Rc) : rplS m 0 (recM m l) 0 = ((recM m l).length, 0) := by
  have h : chk 0 (recM m l) 0 = 0 := by unfold chk; rw [if_neg (by decide), if_neg (by decide), if_pos (recM_ok m l)]
  unfold rplS
  rw [if_neg (not_not_intro h), rpl_rec, Nat.zero_add]
theorem fewL_short {l : List Rc} (h : fewL l) : shortL l := ⟨by have := h.1; omega, fun i hi => by have := h.2 i hi; omega⟩
theorem recM_short {m : Mc} {l : List Rc} (h : fewL l) (hst : m.st < 1009) : (recM m l).length ≤ 120 ∧ shortL (recM m l) := by
  have h1 := recM_len m l
  have h0 := h.1
  refine ⟨by omega, by omega, fun i hi => ?_⟩
  have hm := mem_getD (l := recM m l) hi
  generalize (recM m l).getD i default = r at *
  have key : ∀ (m : Mc) (l : List Rc), m.st < 1009 → (∀ x ∈ l, x.pl.length ≤ 200 ∧ x.tp.length ≤ 60) → ∀ r ∈ recM m l, r.pl.length ≤ 100000 ∧ r.tp.length ≤ 100000 := by
    intro m l
    induction l generalizing m with
    | nil => intro _ _ r hr; cases hr
    | cons x l ih =>
      intro hst hl r hr
      have hx := hl x (List.mem_cons_self ..)
      have h2 : (stM m x).st < 1009 := Nat.mod_lt _ (by decide)
      rcases List.mem_append.1 hr with q | q
      · unfold rec1 at q
        rcases List.mem_cons.1 q with rfl | q
        · refine ⟨by show x.pl.length ≤ _; omega, ?_⟩
          show (inT ++ x.tp).length ≤ _
          rw [List.length_append]
          show 3 + _ ≤ _
          omega
        · obtain ⟨y, hy, rfl⟩ := List.mem_map.1 q
          have := out_mem hy h2
          refine ⟨by show y.2.length ≤ _; omega, ?_⟩
          show (ouT ++ y.1).length ≤ _
          rw [List.length_append]
          show 4 + _ ≤ _
          omega
      · exact ih (stM m x) h2 (fun y hy => hl y (List.mem_cons_of_mem _ hy)) r q
  refine key m l hst (fun x hx => ?_) r hm
  obtain ⟨k, hk, rfl⟩ := List.mem_iff_getElem.1 hx
  have := h.2 k hk
  rw [getD_at hk] at this
  exact this
/-- What a written recording answers when it is read. -/
theorem wt_read {n : Int} {A : List Rc} (h : wtE n A = 0) (hA : A.length ≤ 120) : (wtS n A).length ≤ 640000 ∧ bgE (wtS n A) = 0 ∧ allB (wtS n A) = (A, 0) ∧ AOk A := by
  have hk := wtE_AOk h hA
  have hS : wtS n A = madeB n A := if_pos h
  obtain ⟨h1, h2⟩ := made_all hk n
  have h3 := made_len hk n
  rw [hS]
  exact ⟨by omega, h1, h2, hk⟩
set_option maxRecDepth 10000 in
theorem cdigest0 : Ctr Tryz.prog 30 [.c .nils] [] fun v h => v = .c (.i .u64 0) ∧ h = [] := by
  refine Ctr.mk' tbv mixed Tryz.func30 rfl rfl rfl (fun _ _ => by kernel_rfl) (by kernel_rfl) (by rfl) (by rfl) (by (repeat' first | refine And.intro ?_ ?_ | exact xeC | fail)) ?_
  repeat' (first | (fail_if_success (with_reducible refine xstp ?_)); first | (with_reducible intro hc; (try simp only [capsP, and_true] at hc); (try exact xfC)) | ((fail_if_success (with_reducible first | refine xgon ?_ | intro _)); (conv => whnf); (fail_if_success (fail_if_success (with_reducible first | refine xstp ?_ | refine xgon ?_ | intro _)))))
  refine LoopK.mk' Unit (fun _ => ⟨[(3, .c (.i .u64 0)), (7, .c (.i .i64 0)), (8, .c (.i .i64 0))], []⟩) (fun _ => 0) ⟨(), [], ?_⟩ ?_
  · (repeat' first | refine And.intro ?_ ?_ | exact xeC | fail)
  rintro ⟨⟩
  repeat' (first | (fail_if_success (with_reducible refine xstp ?_)); first | ((with_reducible refine And.intro (fun (hb : _ = true) => ?_) (fun (hb : _ = false) => ?_)) <;> replace hb := xnC hb <;> (try first | exact xfC | exact bff hb (by assumption) | exact bff (by assumption) hb)) | (with_reducible intro hc; (try simp only [capsP, and_true] at hc); (try exact xfC)) | ((fail_if_success (with_reducible first | refine xgon ?_ | intro _)); (conv => whnf); (fail_if_success (fail_if_success (with_reducible first | refine xstp ?_ | refine xgon ?_ | intro _)))))
  exact FinK.mk ⟨[], _, _, ⟨rfl, rfl⟩, by (repeat' first | refine And.intro ?_ ?_ | exact xeC | fail)⟩
def awM : Mc := ⟨1, 0⟩
def awA : List Rc := [⟨5, [103, 111], [120]⟩]
theorem awFew : fewL awA := ⟨by decide, fun i hi => by
  have : i = 0 := by have : awA.length = 1 := rfl; omega
  subst this
  decide⟩
theorem awE : wtE 500 (recM awM awA) = 0 := by decide
theorem awLen : (recM awM awA).length = 1 := by decide
theorem aw_rowA {f : Nat → List C} (h : f 0 = rowOf encR awA 0) (i : Nat) (hi : i < awA.length) : f i = rowOf encR awA i :=
  match i, hi with
  | 0, _ => h
theorem rH42zlT0 {σ : List Sg} {H h' : List Fam} {v : T} {K : T → List Fam → Prop} {H' : List Fam} {v' : T} {N : Nat} (hk : K v' H') (hN : H.length = N := by (try simp only [↓List.length_cons, ↓List.length_nil, Nat.reduceAdd]) <;> rfl) (h : givesF σ N H σ h' = some H' := by (try simp (maxSteps := 1000000) only [givesF, setF, updF, Fam.zeroth, Fam.rk, Ck.rk, C.rk, E.rk, T.rk, key, List.map_cons, List.map_nil, List.cons_append, List.nil_append, List.length_cons, List.length_nil, Option.map_some, Option.bind_some, Nat.reduceAdd, Nat.zero_add, Nat.add_zero, Nat.add_sub_cancel_left, Int.toNat_natCast, reps, List.all_cons, List.all_nil, C.flat, List.append_eq, Bool.not_true, Bool.and_true, Bool.or_false, Bool.or_self, Bool.not_false, List.append_nil, Bool.and_self, encR]) <;> rfl) (hv : v.rk σ N = v' := by (try simp only [givesF, setF, updF, Fam.zeroth, Fam.rk, Ck.rk, C.rk, E.rk, T.rk, key, List.map_cons, List.map_nil, List.cons_append, List.nil_append, List.length_cons, List.length_nil, Option.map_some, Option.bind_some, Nat.reduceAdd, Nat.zero_add, Nat.add_zero, Nat.add_sub_cancel_left, Int.toNat_natCast, reps, List.all_cons, List.all_nil, C.flat, List.append_eq, Bool.not_true, Bool.and_true, Bool.or_false, Bool.or_self, Bool.not_false, List.append_nil, Bool.and_self, encR]) <;> rfl) : RetG σ H h' v K := ret_mk3 hN h hv hk
set_option maxRecDepth 10000 in
set_option maxHeartbeats 16000000 in
theorem cawake42 : Ctr Tryz.prog 9 [] [] fun v h => v = .c .tt ∧ h = [] := by
  have hR := recM_short (m := awM) awFew (by decide)
  obtain ⟨hl, hE, hA, hk⟩ := wt_read awE hR.1
  have hrp := rplS_rec awM awA
  have hle := awLen
  have k1 := crecord 500 awM true awA 1 (by decide) (by decide) awFew
  have k2 := creplay awM (wtS 500 (recM awM awA)) hl (recM awM awA) 0 0 hE hA (by decide) (by decide) (fun _ => hR.2)
  have k3 := rrecords awM true awA 1 (by decide) (by decide) (fewL_short awFew)
  rw [awE] at k1
  rw [hrp, hle] at k2
  rw [hle] at k3
  clear hrp hle hk hR hE hA hl
  generalize wtS 500 (recM awM awA) = s at *
  generalize recM awM awA = R at *
  generalize stL awM awA = sM at *
  refine Ctr.mk' tbv mixed Tryz.func9 rfl rfl rfl (fun _ _ => by kernel_rfl) (by kernel_rfl) (by rfl) (by rfl) (by (repeat' first | refine And.intro ?_ ?_ | exact xeC | fail)) ?_
  repeat' (first | (fail_if_success (with_reducible refine xstp ?_)); first | (with_reducible intro hc; (try simp only [capsP, and_true] at hc); (try exact xfC)) | ((fail_if_success (with_reducible first | refine xgon ?_ | intro _)); (conv => whnf); (fail_if_success (fail_if_success (with_reducible first | refine xstp ?_ | refine xgon ?_ | intro _)))))
  refine xcal (σ := [.whole 0, .whole 1]) (nl := []) (k1) ?_ (hle := by (repeat' first | refine And.intro ?_ ?_ | exact xeC | fail) <;> (first | exact aw_rowA rfl | skip))
  rintro v h' ⟨m', hf, rfl, rfl⟩ hcaps
  refine rH42zlT0 ?_
  repeat' (first | (fail_if_success (with_reducible refine xstp ?_)); first | ((fail_if_success (with_reducible first | refine xgon ?_ | intro _)); (conv => whnf); (fail_if_success (fail_if_success (with_reducible first | refine xstp ?_ | refine xgon ?_ | intro _)))))
  refine xcal (σ := [.whole 2]) (nl := []) (k2) ?_
  rintro v h' ⟨m2, rfl, rfl⟩ hcaps
  refine rH42zlT0 ?_
  repeat' (first | (fail_if_success (with_reducible refine xstp ?_)); first | ((fail_if_success (with_reducible first | refine xgon ?_ | intro _)); (conv => whnf); (fail_if_success (fail_if_success (with_reducible first | refine xstp ?_ | refine xgon ?_ | intro _)))))
  refine xcal (σ := [.whole 3, .whole 4]) (nl := []) (k3) ?_ (hle := by (repeat' first | refine And.intro ?_ ?_ | exact xeC | fail) <;> (first | exact aw_rowA rfl | skip))
  rintro v h' ⟨c3, rfl, rfl⟩ hcaps
  refine rH42zlT0 ?_
  repeat' (first | (fail_if_success (with_reducible refine xstp ?_)); first | ((with_reducible refine And.intro (fun (hb : _ = true) => ?_) (fun (hb : _ = false) => ?_)) <;> replace hb := xnC hb <;> (try first | exact xfC | exact bff hb (by assumption) | exact bff (by assumption) hb)) | ((fail_if_success (with_reducible first | refine xgon ?_ | intro _)); (conv => whnf); (fail_if_success (fail_if_success (with_reducible first | refine xstp ?_ | refine xgon ?_ | intro _)))))
  refine xcal (σ := []) (nl := []) (cdigest0) ?_
  rintro v h' ⟨rfl, rfl⟩ hcaps
  refine xret ?_
  repeat' (first | (fail_if_success (with_reducible refine xstp ?_)); first | ((fail_if_success (with_reducible first | refine xgon ?_ | intro _)); (conv => whnf); (fail_if_success (fail_if_success (with_reducible first | refine xstp ?_ | refine xgon ?_ | intro _)))))
  exact FinK.mk ⟨[], _, _, ⟨rfl, rfl⟩, by (repeat' first | refine And.intro ?_ ?_ | exact xeC | fail)⟩
end Go.Proofs.YtenompgpjlbelaaGreatDoor


namespace Go.Proofs.YtenompgpjlbelaaGreatDoor
open Go.X
set_option linter.unusedSimpArgs false
set_option linter.unusedVariables false
open P4
open P5
theorem encRh_rkA (X : List Ch) (i : Nat) : List.map (C.rk [Sg.whole 1, Sg.whole 2, Sg.whole 3] 4) (encRh 4 X i) = encRh 5 X i := rfl
theorem rH42zlR0 {σ : List Sg} {H h' : List Fam} {v : T} {K : T → List Fam → Prop} {H' : List Fam} {v' : T} {N : Nat} (hk : K v' H') (hN : H.length = N := by (try simp only [↓List.length_cons, ↓List.length_nil, Nat.reduceAdd]) <;> rfl) (h : givesF σ N H σ h' = some H' := by (try simp (maxSteps := 1000000) only [givesF, setF, updF, Fam.zeroth, Fam.rk, Ck.rk, C.rk, E.rk, T.rk, key, List.map_cons, List.map_nil, List.cons_append, List.nil_append, List.length_cons, List.length_nil, Option.map_some, Option.bind_some, Nat.reduceAdd, Nat.zero_add, Nat.add_zero, Nat.add_sub_cancel_left, Int.toNat_natCast, reps, List.all_cons, List.all_nil, C.flat, List.append_eq, Bool.not_true, Bool.and_true, Bool.or_false, Bool.or_self, Bool.not_false, List.append_nil, Bool.and_self, ↓chG_rk]) <;> rfl) (hv : v.rk σ N = v' := by (try simp only [givesF, setF, updF, Fam.zeroth, Fam.rk, Ck.rk, C.rk, E.rk, T.rk, key, List.map_cons, List.map_nil, List.cons_append, List.nil_append, List.length_cons, List.length_nil, Option.map_some, Option.bind_some, Nat.reduceAdd, Nat.zero_add, Nat.add_zero, Nat.add_sub_cancel_left, Int.toNat_natCast, reps, List.all_cons, List.all_nil, C.flat, List.append_eq, Bool.not_true, Bool.and_true, Bool.or_false, Bool.or_self, Bool.not_false, List.append_nil, Bool.and_self, ↓chG_rk]) <;> rfl) : RetG σ H h' v K := ret_mk3 hN h hv hk
theorem rH42zlR1 {σ : List Sg} {H h' : List Fam} {v : T} {K : T → List Fam → Prop} {H' : List Fam} {v' : T} {N : Nat} (hk : K v' H') (hN : H.length = N := by (try simp only [↓List.length_cons, ↓List.length_nil, Nat.reduceAdd]) <;> rfl) (h : givesF σ N H σ h' = some H' := by (try simp (maxSteps := 1000000) only [givesF, setF, updF, Fam.zeroth, Fam.rk, Ck.rk, C.rk, E.rk, T.rk, key, List.map_cons, List.map_nil, List.cons_append, List.nil_append, List.length_cons, List.length_nil, Option.map_some, Option.bind_some, Nat.reduceAdd, Nat.zero_add, Nat.add_zero, Nat.add_sub_cancel_left, Int.toNat_natCast, reps, List.all_cons, List.all_nil, C.flat, List.append_eq, Bool.not_true, Bool.and_true, Bool.or_false, Bool.or_self, Bool.not_false, List.append_nil, Bool.and_self, ↓chG_rk, encRh_rkA]) <;> rfl) (hv : v.rk σ N = v' := by (try simp only [givesF, setF, updF, Fam.zeroth, Fam.rk, Ck.rk, C.rk, E.rk, T.rk, key, List.map_cons, List.map_nil, List.cons_append, List.nil_append, List.length_cons, List.length_nil, Option.map_some, Option.bind_some, Nat.reduceAdd, Nat.zero_add, Nat.add_zero, Nat.add_sub_cancel_left, Int.toNat_natCast, reps, List.all_cons, List.all_nil, C.flat, List.append_eq, Bool.not_true, Bool.and_true, Bool.or_false, Bool.or_self, Bool.not_false, List.append_nil, Bool.and_self, ↓chG_rk, encRh_rkA]) <;> rfl) : RetG σ H h' v K := ret_mk3 hN h hv hk
theorem cH42zlR2 {P : Program} {F : Nat} {args : List T} {H : List Fam} {K : T → List Fam → Prop} {σ : List Sg} {nl : List Fam} {args0 : List T} {h0 : List Fam} {Q : T → List Fam → Prop} {H2 H1 : List Fam} {N n : Nat} (hc : Ctr P F args0 h0 Q) (hk : ∀ v h', Q v h' → capsP h' → RetG σ H2 h' v K) (hap : apart σ = true := by rfl) (hnl : nl.all nilB = true := by rfl) (h1 : H ++ nl = H1 := by first | exact List.append_nil _ | ((try simp only [List.cons_append, List.nil_append]) <;> rfl)) (hN : H1.length = N := by (try simp only [↓List.length_cons, ↓List.length_nil, Nat.reduceAdd]) <;> rfl) (hn : H.length = n := by (try simp only [↓List.length_cons, ↓List.length_nil, Nat.reduceAdd]) <;> rfl) (hH : givesF σ N H1 σ h0 = some H2 := by (try simp (maxSteps := 1000000) only [givesF, setF, updF, Fam.zeroth, Fam.rk, Ck.rk, C.rk, E.rk, T.rk, key, List.map_cons, List.map_nil, List.cons_append, List.nil_append, List.length_cons, List.length_nil, Option.map_some, Option.bind_some, Nat.reduceAdd, Nat.zero_add, Nat.add_zero, Nat.add_sub_cancel_left, Int.toNat_natCast, reps, List.all_cons, List.all_nil, C.flat, List.append_eq, Bool.not_true, Bool.and_true, Bool.or_false, Bool.or_self, Bool.not_false, List.append_nil, Bool.and_self, ↓chG_rk]) <;> rfl) (hle : leS n H1 σ N σ h0 (belsK N (h0.map (Fam.rk σ N)) (argsK n args (args0.map (T.rk σ N)) True)) := by repeat' first | refine And.intro ?_ ?_ | exact xeC | fail) : CallK P F args H K := CallK.mk3 hc hap hnl h1 hN hn hH hle hk
set_option maxRecDepth 10000 in
set_option maxHeartbeats 8000000 in
theorem rwrite (n : Int) (w : Bool) (l : List Rc) (c : Nat) (hl : l.length ≤ 120) (ht : ∀ i, i < l.length → (l.getD i default).tp.length ≤ 1000000) :
    Ctr Tryz.prog 12 [.c (.i .i64 n), .c (.sl 0 0 3 0 l.length c)] [.one (rcR w l c)]
      fun v h => v = .t [.c (.s (mkS (wtS n l))), .c (.i .i64 (wtE n l : Nat))] ∧ h = [.one (rcR w l c)] := by
  refine Ctr.mk' tbv mixed Tryz.func12 rfl rfl rfl (fun _ _ => by kernel_rfl) (by kernel_rfl) (by rfl) (by rfl) (by (repeat' first | refine And.intro ?_ ?_ | exact xeC | fail) <;> (exact xmC)) ?_
  repeat' (first | (fail_if_success (with_reducible refine xstp ?_)); first | (with_reducible intro hc; (try simp only [capsP, and_true] at hc); (try exact xfC)) | ((fail_if_success (with_reducible first | refine xgon ?_ | intro _)); (conv => whnf); (fail_if_success (fail_if_success (with_reducible first | refine xstp ?_ | refine xgon ?_ | intro _)))))
  refine cH42zlR2 (σ := []) (nl := []) (cNewWR n) ?_
  rintro v h' hq hcaps
  rcases hq with ⟨hq, rfl, rfl⟩ | ⟨hn, rfl, rfl⟩
  · have h0 : wtE n l = 4 := if_pos hq
    have h1 : wtS n l = [] := by unfold wtS; rw [h0]; exact if_neg (by decide)
    rw [h0, h1]
    refine rH42zlR0 ?_
    repeat' (first | (fail_if_success (with_reducible refine xstp ?_)); first | ((with_reducible refine And.intro (fun (hb : _ = true) => ?_) (fun (hb : _ = false) => ?_)) <;> replace hb := xnC hb <;> (try first | exact xfC | exact bff hb (by assumption) | exact bff (by assumption) hb)) | ((fail_if_success (with_reducible first | refine xgon ?_ | intro _)); (conv => whnf); (fail_if_success (fail_if_success (with_reducible first | refine xstp ?_ | refine xgon ?_ | intro _)))))
    refine FinK.mk ⟨[0], _, _, ⟨rfl, rfl⟩, ?_⟩
    (repeat' first | refine And.intro ?_ ?_ | exact xeC | fail)
  have hE : wtE n l = wrtE (newW n) l := if_neg (show ¬ badC n by unfold badC; omega)
  have hS : wtS n l = if wrtE (newW n) l = 0 then madeB n l else [] := by unfold wtS; rw [hE]
  rw [hE, hS]
  refine rH42zlR0 ?_
  repeat' (first | (fail_if_success (with_reducible refine xstp ?_)); first | ((with_reducible refine And.intro (fun (hb : _ = true) => ?_) (fun (hb : _ = false) => ?_)) <;> replace hb := xnC hb <;> (try first | exact xfC | exact bff hb (by assumption) | exact bff (by assumption) hb)) | ((fail_if_success (with_reducible first | refine xgon ?_ | intro _)); (conv => whnf); (fail_if_success (fail_if_success (with_reducible first | refine xstp ?_ | refine xgon ?_ | intro _)))))
  refine LoopK.mk' {p : Nat × List Ch × Nat // p.1 ≤ l.length ∧ wrtE (newW n) (l.take p.1) = 0 ∧ p.2.1.map Ch.l = (wrA n (l.take p.1)).L}
    (fun ⟨(i, X, c1), _⟩ => ⟨[(1, .c (.sl 0 0 3 0 l.length c)), (6, .c (.p 1 0 0)), (8, .c (.i .i64 (i : Nat)))],
      [.one (rcR w l c), .one (rwC (wrA n (l.take i)) 2 X.length c1), .one (rhR 3 X c1), .many (chG X)]⟩) (fun p => l.length - p.1.1)
    ⟨⟨(0, [], 0), Nat.zero_le _, rfl, rfl⟩, [0, 1, 2, 3], ?_⟩ ?_
  · (repeat' first | refine And.intro ?_ ?_ | exact xeC | fail)
    all_goals first
      | (exact xmC)
      | skip
  rintro ⟨⟨i, X, c1⟩, hi, hz, hX⟩
  simp only at hi hz hX
  have e2 : 0 + ((i : Nat) : Int).toNat = i := by omega
  have hW := wrtE_WI n _ hz
  have hil : (l.take i).length = i := by rw [List.length_take]; omega
  have hxs := hW.xsA (by omega) hX
  rcases Nat.lt_or_ge i l.length with hlt | hge
  · have hru := wrA_snoc n (l.take i) (l.getD i default)
    have hts := take_snocG l hlt
    rw [← hts] at hru
    have hri := ht i hlt
    repeat' (first | (fail_if_success (with_reducible refine xstp ?_)); first | ((with_reducible refine And.intro (fun (hb : _ = true) => ?_) (fun (hb : _ = false) => ?_)) <;> replace hb := xnC hb <;> (try first | exact xfC | exact bff hb (by assumption) | exact bff (by assumption) hb)) | ((with_reducible refine And.intro ?_ ?_); focus exact xoC) | (with_reducible intro hc; (try simp only [capsP, and_true] at hc); (try exact xfC)) | ((fail_if_success (with_reducible first | refine xgon ?_ | intro _)); (conv => whnf); (fail_if_success (fail_if_success (with_reducible first | refine xstp ?_ | refine xgon ?_ | intro _)))))
    rw [e2]
    refine cH42zlR2 (σ := [.whole 1, .whole 2, .whole 3]) (nl := []) (cAddR (wrA n (l.take i)) X c1 (l.getD i default) hX (by omega) hW.la (by omega) (fun x hx => by have := hxs.2.1 x hx; exact ⟨this.1, by omega, this.2.2⟩) (by omega)) ?_ (hle := by (repeat' first | refine And.intro ?_ ?_ | exact xeC | fail) <;> (exact xmC))
    rintro v h' ⟨X', c1', hX', rfl, rfl⟩ hcaps
    refine rH42zlR1 ?_
    by_cases h0 : addE (wrA n (l.take i)) (l.getD i default) = 0
    · rw [h0]
      repeat' (first | (fail_if_success (with_reducible refine xstp ?_)); first | ((with_reducible refine And.intro (fun (hb : _ = true) => ?_) (fun (hb : _ = false) => ?_)) <;> replace hb := xnC hb <;> (try first | exact xfC | exact bff hb (by assumption) | exact bff (by assumption) hb)) | ((with_reducible refine OvK.fit ?_ ?_); focus exact xoC) | ((fail_if_success (with_reducible first | refine xgon ?_ | intro _)); (conv => whnf); (fail_if_success (fail_if_success (with_reducible first | refine xstp ?_ | refine xgon ?_ | intro _)))))
      refine ⟨⟨(i + 1, X', c1'), hlt, by rw [hts]; exact wrtE_snoc0 hz h0, by rw [hru]; exact hX'⟩, [0, 1, 4, 5], by simp only; omega, ?_⟩
      simp only [hru]
      (repeat' first | refine And.intro ?_ ?_ | exact xeC | fail)
      all_goals first
        | (exact xmC)
        | skip
    · have hh : wrtE (newW n) l = addE (wrA n (l.take i)) (l.getD i default) := by
        have := wrtE_hit (m := l.drop (i + 1)) hz h0
        rw [← drop_consG l hlt, List.take_append_drop] at this
        exact this
      rw [hh, if_neg h0]
      generalize addE (wrA n (l.take i)) (l.getD i default) = e at *
      repeat' (first | (fail_if_success (with_reducible refine xstp ?_)); first | ((with_reducible refine And.intro (fun (hb : _ = true) => ?_) (fun (hb : _ = false) => ?_)) <;> replace hb := xnC hb <;> (try first | exact xfC | exact bff hb (by assumption) | exact bff (by assumption) hb)) | ((fail_if_success (with_reducible first | refine xgon ?_ | intro _)); (conv => whnf); (fail_if_success (fail_if_success (with_reducible first | refine xstp ?_ | refine xgon ?_ | intro _)))))
      refine FinK.mk ⟨[0], _, _, ⟨rfl, rfl⟩, ?_⟩
      (repeat' first | refine And.intro ?_ ?_ | exact xeC | fail)
  · obtain rfl : i = l.length := by omega
    have hmk : XOk X := ⟨by omega, fun x hx => by have := hxs.2.1 x hx; exact ⟨this.1, by omega, this.2.2⟩⟩
    have hcl := hW.cl
    repeat' (first | (fail_if_success (with_reducible refine xstp ?_)); first | ((with_reducible refine And.intro (fun (hb : _ = true) => ?_) (fun (hb : _ = false) => ?_)) <;> replace hb := xnC hb <;> (try first | exact xfC | exact bff hb (by assumption) | exact bff (by assumption) hb)) | (with_reducible intro hc; (try simp only [capsP, and_true] at hc); (try exact xfC)) | ((fail_if_success (with_reducible first | refine xgon ?_ | intro _)); (conv => whnf); (fail_if_success (fail_if_success (with_reducible first | refine xstp ?_ | refine xgon ?_ | intro _)))))
    refine cH42zlR2 (σ := [.whole 1, .whole 2, .whole 3]) (nl := []) (cCloseR (wrA n (l.take l.length)) X c1 hmk hX) ?_ (hle := by (repeat' first | refine And.intro ?_ ?_ | exact xeC | fail) <;> (exact xmC))
    rw [List.take_length] at hcl hz ⊢
    rw [if_neg (by rw [hcl]; decide), if_neg (by rw [hcl]; decide), hz, if_pos rfl]
    rintro v h' ⟨rfl, rfl⟩ hcaps
    refine rH42zlR0 ?_
    repeat' (first | (fail_if_success (with_reducible refine xstp ?_)); first | ((fail_if_success (with_reducible first | refine xgon ?_ | intro _)); (conv => whnf); (fail_if_success (fail_if_success (with_reducible first | refine xstp ?_ | refine xgon ?_ | intro _)))))
    refine FinK.mk ⟨[0], _, _, ⟨rfl, rfl⟩, ?_⟩
    (repeat' first | refine And.intro ?_ ?_ | exact xeC | fail)
end Go.Proofs.YtenompgpjlbelaaGreatDoor


namespace Go.Proofs.YtenompgpjlbelaaGreatDoor
open Go.X
set_option linter.unusedVariables false
/-- A player: its records, its time, its position. -/
structure Pl where
  l : List Rc
  at_ : Int
  pos : Nat
def plN (l : List Rc) : Pl := ⟨l, if 0 < l.length then (l.getD 0 default).at_ else 0, 0⟩
/-- The records behind a position while they pass a test. -/
def twh (q : Rc → Bool) (l : List Rc) (p : Nat) : List Rc := (l.drop p).takeWhile q
theorem twh_len (q : Rc → Bool) (l : List Rc) (p : Nat) : (twh q l p).length ≤ l.length - p := by
  have := (List.takeWhile_prefix (p := q) (l := l.drop p)).length_le
  rw [List.length_drop] at this
  exact this
def upt (a : Int) (r : Rc) : Bool := decide (r.at_ ≤ a)
def spE (p : Pl) (a : Int) : Nat := if a < p.at_ ∨ 1099511627776 < a then 17 else 0
def spP (p : Pl) (a : Int) : Pl := if spE p a = 0 then ⟨p.l, a, p.pos + (twh (upt a) p.l p.pos).length⟩ else p
def rtB (n d w : Int) : Prop := n < 0 ∨ 1000 < n ∨ d < 1 ∨ 1000 < d ∨ w < 0 ∨ 1073741824 < w
instance (n d w : Int) : Decidable (rtB n d w) := by unfold rtB; infer_instance
/-- Times of a player's records, and of the player, are simulated times. -/
structure PlOk (p : Pl) : Prop where
  n : p.l.length ≤ 100000
  t : ∀ r ∈ p.l, 0 ≤ r.at_ ∧ r.at_ ≤ 1099511627776
  a : 0 ≤ p.at_ ∧ p.at_ ≤ 1099511627776
  p : p.pos ≤ p.l.length
theorem PlOk.new {l : List Rc} (h : l.length ≤ 100000) (ht : ∀ r ∈ l, 0 ≤ r.at_ ∧ r.at_ ≤ 1099511627776) : PlOk (plN l) := by
  refine ⟨h, ht, ?_, Nat.zero_le _⟩
  unfold plN
  simp only
  split
  · rename_i h0
    exact ht _ (by rw [getD_at h0]; exact List.getElem_mem _)
  · decide
theorem PlOk.step {p : Pl} (h : PlOk p) (a : Int) : PlOk (spP p a) := by
  have ha := h.a
  have hp := h.p
  by_cases h0 : a < p.at_ ∨ 1099511627776 < a
  · have e : spP p a = p := by unfold spP spE; rw [if_pos h0]; exact if_neg (by decide)
    rw [e]; exact h
  · have e : spP p a = ⟨p.l, a, p.pos + (twh (upt a) p.l p.pos).length⟩ := by unfold spP spE; rw [if_neg h0]; exact if_pos rfl
    rw [e]
    have := twh_len (upt a) p.l p.pos
    exact ⟨h.n, h.t, by simp only; omega, by simp only; omega⟩
end Go.Proofs.YtenompgpjlbelaaGreatDoor


namespace Go.Proofs.YtenompgpjlbelaaGreatDoor
open Go.X
set_option linter.unusedSimpArgs false
set_option linter.unusedVariables false
open P4
open P5
theorem rH42zlO0 {σ : List Sg} {H h' : List Fam} {v : T} {K : T → List Fam → Prop} {H' : List Fam} {v' : T} {N : Nat} (hk : K v' H') (hN : H.length = N := by (try simp only [↓List.length_cons, ↓List.length_nil, Nat.reduceAdd]) <;> rfl) (h : givesF σ N H σ h' = some H' := by (try simp (maxSteps := 1000000) only [givesF, setF, updF, Fam.zeroth, Fam.rk, Ck.rk, C.rk, E.rk, T.rk, key, List.map_cons, List.map_nil, List.cons_append, List.nil_append, List.length_cons, List.length_nil, Option.map_some, Option.bind_some, Nat.reduceAdd, Nat.zero_add, Nat.add_zero, Nat.add_sub_cancel_left, Int.toNat_natCast, reps, List.all_cons, List.all_nil, C.flat, List.append_eq, Bool.not_true, Bool.and_true, Bool.or_false, Bool.or_self, Bool.not_false, List.append_nil, Bool.and_self, encR]) <;> rfl) (hv : v.rk σ N = v' := by (try simp only [givesF, setF, updF, Fam.zeroth, Fam.rk, Ck.rk, C.rk, E.rk, T.rk, key, List.map_cons, List.map_nil, List.cons_append, List.nil_append, List.length_cons, List.length_nil, Option.map_some, Option.bind_some, Nat.reduceAdd, Nat.zero_add, Nat.add_zero, Nat.add_sub_cancel_left, Int.toNat_natCast, reps, List.all_cons, List.all_nil, C.flat, List.append_eq, Bool.not_true, Bool.and_true, Bool.or_false, Bool.or_self, Bool.not_false, List.append_nil, Bool.and_self, encR]) <;> rfl) : RetG σ H h' v K := ret_mk3 hN h hv hk
set_option maxRecDepth 10000 in
set_option maxHeartbeats 16000000 in
theorem cinputs (s : List UInt8) (hls : s.length ≤ 640000) (l : List Rc) (e e2 : Nat) (h1 : bgE s = e) (h2 : allB s = (l, e2)) (hl : e = 0 → shortL l) :
    Ctr Tryz.prog 16 [.c (.s (mkS s))] []
      fun v h => (chk e l e2 ≠ 0 ∧ v = .t [.c .nils, .c (.i .i64 (chk e l e2 : Nat))] ∧ h = []) ∨
        (chk e l e2 = 0 ∧ okL l ∧ ∃ c, v = .t [.c (.sl 0 0 3 0 (insL l).length c), .c (.i .i64 0)] ∧ h = [.one (rcR true (insL l) c)]) := by
  have hck := cchecked s hls l e e2 h1 h2 (fun q => by have := (hl q).1; omega) (fun q i hi => by have := ((hl q).2 i hi).2; omega)
  clear h1 h2
  refine Ctr.mk' tbv mixed Tryz.func16 rfl rfl rfl (fun _ _ => by kernel_rfl) (by kernel_rfl) (by rfl) (by rfl) (by (repeat' first | refine And.intro ?_ ?_ | exact xeC | fail)) ?_
  repeat' (first | (fail_if_success (with_reducible refine xstp ?_)); first | (with_reducible intro hc; (try simp only [capsP, and_true] at hc); (try exact xfC)) | ((fail_if_success (with_reducible first | refine xgon ?_ | intro _)); (conv => whnf); (fail_if_success (fail_if_success (with_reducible first | refine xstp ?_ | refine xgon ?_ | intro _)))))
  refine xcal (σ := []) (nl := []) (hck) ?_
  rintro v h' (⟨he, rfl, rfl⟩ | ⟨he, he2, hok, hk, c, rfl, rfl⟩) hcaps
  · generalize chk e l e2 = q at *
    refine xret ?_
    repeat' (first | (fail_if_success (with_reducible refine xstp ?_)); first | ((with_reducible refine And.intro (fun (hb : _ = true) => ?_) (fun (hb : _ = false) => ?_)) <;> replace hb := xnC hb <;> (try first | exact xfC | exact bff hb (by assumption) | exact bff (by assumption) hb)) | ((fail_if_success (with_reducible first | refine xgon ?_ | intro _)); (conv => whnf); (fail_if_success (fail_if_success (with_reducible first | refine xstp ?_ | refine xgon ?_ | intro _)))))
    exact FinK.mk ⟨[], _, _, .inl ⟨he, rfl, rfl⟩, by (repeat' first | refine And.intro ?_ ?_ | exact xeC | fail)⟩
  clear hck
  have hl := hl he
  have hll := hl.1
  refine xret ?_
  repeat' (first | (fail_if_success (with_reducible refine xstp ?_)); first | ((with_reducible refine And.intro (fun (hb : _ = true) => ?_) (fun (hb : _ = false) => ?_)) <;> replace hb := xnC hb <;> (try first | exact xfC | exact bff hb (by assumption) | exact bff (by assumption) hb)) | ((fail_if_success (with_reducible first | refine xgon ?_ | intro _)); (conv => whnf); (fail_if_success (fail_if_success (with_reducible first | refine xstp ?_ | refine xgon ?_ | intro _)))))
  refine LoopK.mk' {t : Nat × List Rc × Nat // t.1 ≤ l.length ∧ t.2.1 = insL (l.take t.1)}
    (fun ⟨(i, o, cc), _⟩ => ⟨[(6, .c (.sl 1 0 3 0 o.length cc)), (19, .c (.sl 0 0 3 0 l.length c)), (20, .c (.i .i64 (l.length : Nat))), (21, .c (.i .i64 (i : Nat)))], [.one (rcR true l c), .one (rcR true o cc)]⟩) (fun t => l.length - t.1.1)
    ⟨⟨(0, [], 0), Nat.zero_le _, rfl⟩, [0, 99], ?_⟩ ?_
  · (repeat' first | refine And.intro ?_ ?_ | exact xeC | fail)
    all_goals first | (intro i hi; exact absurd hi (Nat.not_lt_zero i)) | skip
  rintro ⟨⟨i, o, cc⟩, hi, ho⟩
  simp only at hi ho
  have e3 : 0 + ((i : Nat) : Int).toNat = i := by omega
  have hol : o.length ≤ 3000 := by
    have := insL_len (l.take i)
    rw [← ho, List.length_take] at this
    omega
  rcases Nat.lt_or_ge i l.length with hlt | hge
  · obtain ⟨h1, h2⟩ := hl.2 i hlt
    have hsn : l.take (i + 1) = l.take i ++ [l.getD i default] := by rw [← List.take_append_getElem hlt, getD_at hlt]
    have hr := insL_snoc (l.take i) (l.getD i default)
    rw [← hsn, ← ho] at hr
    repeat' (first | (fail_if_success (with_reducible refine xstp ?_)); first | ((with_reducible refine And.intro (fun (hb : _ = true) => ?_) (fun (hb : _ = false) => ?_)) <;> replace hb := xnC hb <;> (try first | exact xfC | exact bff hb (by assumption) | exact bff (by assumption) hb)) | ((with_reducible refine And.intro ?_ ?_); focus exact xoC) | (with_reducible intro hc; (try simp only [capsP, and_true] at hc); (try exact xfC)) | ((fail_if_success (with_reducible first | refine xgon ?_ | intro _)); (conv => whnf); (fail_if_success (fail_if_success (with_reducible first | refine xstp ?_ | refine xgon ?_ | intro _)))))
    rw [e3]
    refine xcal (σ := []) (nl := []) (cinput (l.getD i default) (by omega) (by omega)) ?_
    rintro v h' ⟨rfl, rfl⟩ hcaps
    by_cases hcp : pfx inT (l.getD i default).tp
    · rw [if_pos hcp] at hr
      rw [decide_eq_true hcp]
      refine rH42zlO0 ?_
      repeat' (first | (fail_if_success (with_reducible refine xstp ?_)); first | ((with_reducible refine And.intro (fun (hb : _ = true) => ?_) (fun (hb : _ = false) => ?_)) <;> replace hb := xnC hb <;> (try first | exact xfC | exact bff hb (by assumption) | exact bff (by assumption) hb)) | ((with_reducible refine And.intro ?_ ?_); focus exact xoC) | ((with_reducible refine OvK.fit ?_ ?_); focus exact xoC) | ((with_reducible refine Or.inl ⟨?_, ?_, ?_⟩); (focus rfl); focus exact xaC) | (with_reducible intro hc; (try simp only [capsP, and_true] at hc); (try exact xfC)) | ((fail_if_success (with_reducible first | refine xgon ?_ | intro _)); (conv => whnf); (fail_if_success (fail_if_success (with_reducible first | refine xstp ?_ | refine xgon ?_ | intro _)))))
      rename_i c5
      refine ⟨⟨(i + 1, o ++ [recU (l.getD i default)], c5), hlt, hr.symm⟩, [0, 5], by simp only; omega, ?_⟩
      (repeat' first | refine And.intro ?_ ?_ | exact xeC | fail)
      all_goals first | omega | (simp only [List.length_append, List.length_singleton]; done) | (rw [List.length_append, List.length_singleton]; omega) | (intro i hi; (first | refine app_rowG _ _ _ _ ?_ i hi | refine app_row _ _ _ ?_ i hi); first | rfl | (simp only [Int.toNat_natCast, Nat.zero_add]; rfl))
    · rw [if_neg hcp, List.append_nil] at hr
      rw [decide_eq_false hcp]
      refine rH42zlO0 ?_
      repeat' (first | (fail_if_success (with_reducible refine xstp ?_)); first | ((with_reducible refine And.intro (fun (hb : _ = true) => ?_) (fun (hb : _ = false) => ?_)) <;> replace hb := xnC hb <;> (try first | exact xfC | exact bff hb (by assumption) | exact bff (by assumption) hb)) | ((with_reducible refine OvK.fit ?_ ?_); focus exact xoC) | ((fail_if_success (with_reducible first | refine xgon ?_ | intro _)); (conv => whnf); (fail_if_success (fail_if_success (with_reducible first | refine xstp ?_ | refine xgon ?_ | intro _)))))
      refine ⟨⟨(i + 1, o, cc), hlt, hr.symm⟩, [0, 1], by simp only; omega, ?_⟩
      (repeat' first | refine And.intro ?_ ?_ | exact xeC | fail)
  · have ek : l.take i = l := List.take_of_length_le hge
    rw [ek] at ho
    subst ho
    repeat' (first | (fail_if_success (with_reducible refine xstp ?_)); first | ((with_reducible refine And.intro (fun (hb : _ = true) => ?_) (fun (hb : _ = false) => ?_)) <;> replace hb := xnC hb <;> (try first | exact xfC | exact bff hb (by assumption) | exact bff (by assumption) hb)) | (with_reducible intro hc; (try simp only [capsP, and_true] at hc); (try exact xfC)) | ((fail_if_success (with_reducible first | refine xgon ?_ | intro _)); (conv => whnf); (fail_if_success (fail_if_success (with_reducible first | refine xstp ?_ | refine xgon ?_ | intro _)))))
    refine FinK.mk ⟨[1], _, _, .inr ⟨hk, hok, cc, rfl, rfl⟩, ?_⟩
    (repeat' first | refine And.intro ?_ ?_ | exact xeC | fail)
end Go.Proofs.YtenompgpjlbelaaGreatDoor


namespace Go.Proofs.YtenompgpjlbelaaGreatDoor
open Go.X
set_option linter.unusedSimpArgs false
set_option linter.unusedVariables false
open P4
open P5
theorem chk_ok (l : List Rc) : chk 0 l 0 = if okL l then 0 else 2 := by unfold chk; rw [if_neg (by decide), if_neg (by decide)]
theorem rplS_A (m : Mc) (l : List Rc) : rplS m 0 l 0 = rplA m l := by
  unfold rplS rplA
  rw [chk_ok]
  by_cases h : okL l
  · rw [if_pos h, if_pos h, if_neg (by decide)]
  · rw [if_neg h, if_neg h, if_pos (by decide)]
set_option maxRecDepth 10000 in
set_option maxHeartbeats 16000000 in
theorem ldiverges (w : Bool) (l : List Rc) (c : Nat) (u : Nat) (hu : u < 65536) (hl : l.length ≤ 9223372036854775807) :
    Ctr Tryz.prog 4 [.c (.sl 0 0 3 0 l.length c), .c (.i .u16 (u : Nat))] [.one (rcR w l c)]
      fun v h => v = .c .tt ∧ h = [.one (rcR w l c)] := by
  refine Ctr.mk' tbv mixed Tryz.func4 rfl rfl rfl (fun _ _ => by kernel_rfl) (by kernel_rfl) (by rfl) (by rfl) (by (repeat' first | refine And.intro ?_ ?_ | exact xeC | fail)) ?_
  repeat' (first | (fail_if_success (with_reducible refine xstp ?_)); first | (with_reducible intro hc; (try simp only [capsP, and_true] at hc); (try exact xfC)) | ((fail_if_success (with_reducible first | refine xgon ?_ | intro _)); (conv => whnf); (fail_if_success (fail_if_success (with_reducible first | refine xstp ?_ | refine xgon ?_ | intro _)))))
  refine xcal (σ := [.whole 0]) (nl := []) (clong w l c hl) ?_
  rintro v h' ⟨hq, rfl⟩ hcaps
  rcases hq with rfl | ⟨rfl, hf⟩
  · refine xret ?_
    repeat' (first | (fail_if_success (with_reducible refine xstp ?_)); first | ((fail_if_success (with_reducible first | refine xgon ?_ | intro _)); (conv => whnf); (fail_if_success (fail_if_success (with_reducible first | refine xstp ?_ | refine xgon ?_ | intro _)))))
    refine xcal (σ := []) (nl := []) (cawake42) ?_
    rintro v h' ⟨rfl, rfl⟩ hcaps
    refine xret ?_
    repeat' (first | (fail_if_success (with_reducible refine xstp ?_)); first | ((fail_if_success (with_reducible first | refine xgon ?_ | intro _)); (conv => whnf); (fail_if_success (fail_if_success (with_reducible first | refine xstp ?_ | refine xgon ?_ | intro _)))))
    refine FinK.mk ⟨[0], _, _, ⟨rfl, rfl⟩, ?_⟩
    (repeat' first | refine And.intro ?_ ?_ | exact xeC | fail)
  have hl40 := hf.1
  have hm : u % 1009 < 1009 := Nat.mod_lt _ (by decide)
  have k1 := rwrite 300 w l c (by omega) (fun i hi => by have := (hf.2 i hi).2; omega)
  by_cases hE : wtE 300 l = 0
  · obtain ⟨hsl, hb, ha, _⟩ := wt_read hE (by omega)
    have k2 := creplay ⟨u % 1009, 0⟩ (wtS 300 l) hsl l 0 0 hb ha hm (Nat.zero_le _) (fun _ => fewL_short hf)
    have k3 := rreplay ⟨u % 1009, 0⟩ w l c hm (Nat.zero_le _) (fewL_short hf)
    have k4 := cinputs (wtS 300 l) hsl l 0 0 hb ha (fun _ => fewL_short hf)
    have k5 := rinputs w l c (by omega) (fun i hi => by have := (hf.2 i hi).2; omega)
    rw [rplS_A] at k2
    rw [chk_ok] at k4
    rw [hE] at k1
    have hins := insL_len l
    clear hsl hb ha hE
    generalize rplA ⟨u % 1009, 0⟩ l = r at *
    generalize wtS 300 l = s at *
    refine xret ?_
    repeat' (first | (fail_if_success (with_reducible refine xstp ?_)); first | ((fail_if_success (with_reducible first | refine xgon ?_ | intro _)); (conv => whnf); (fail_if_success (fail_if_success (with_reducible first | refine xstp ?_ | refine xgon ?_ | intro _)))))
    refine xcal (σ := [.whole 0]) (nl := []) (k1) ?_
    rintro v h' ⟨rfl, rfl⟩ hcaps
    refine xret ?_
    repeat' (first | (fail_if_success (with_reducible refine xstp ?_)); first | ((with_reducible refine And.intro (fun (hb : _ = true) => ?_) (fun (hb : _ = false) => ?_)) <;> replace hb := xnC hb <;> (try first | exact xfC | exact bff hb (by assumption) | exact bff (by assumption) hb)) | ((fail_if_success (with_reducible first | refine xgon ?_ | intro _)); (conv => whnf); (fail_if_success (fail_if_success (with_reducible first | refine xstp ?_ | refine xgon ?_ | intro _)))))
    refine xcal (σ := []) (nl := []) (cstart u hu) ?_
    rintro v h' ⟨rfl, rfl⟩ hcaps
    refine xret ?_
    repeat' (first | (fail_if_success (with_reducible refine xstp ?_)); first | ((fail_if_success (with_reducible first | refine xgon ?_ | intro _)); (conv => whnf); (fail_if_success (fail_if_success (with_reducible first | refine xstp ?_ | refine xgon ?_ | intro _)))))
    refine xcal (σ := [.whole 1]) (nl := []) (k2) ?_
    rintro v h' ⟨m1, rfl, rfl⟩ hcaps
    refine xret ?_
    repeat' (first | (fail_if_success (with_reducible refine xstp ?_)); first | ((fail_if_success (with_reducible first | refine xgon ?_ | intro _)); (conv => whnf); (fail_if_success (fail_if_success (with_reducible first | refine xstp ?_ | refine xgon ?_ | intro _)))))
    refine xcal (σ := []) (nl := []) (cstart u hu) ?_
    rintro v h' ⟨rfl, rfl⟩ hcaps
    refine xret ?_
    repeat' (first | (fail_if_success (with_reducible refine xstp ?_)); first | ((fail_if_success (with_reducible first | refine xgon ?_ | intro _)); (conv => whnf); (fail_if_success (fail_if_success (with_reducible first | refine xstp ?_ | refine xgon ?_ | intro _)))))
    refine xcal (σ := [.whole 2, .whole 0]) (nl := []) (k3) ?_
    rintro v h' ⟨m2, rfl, rfl⟩ hcaps
    refine xret ?_
    repeat' (first | (fail_if_success (with_reducible refine xstp ?_)); first | ((fail_if_success (with_reducible first | refine xgon ?_ | intro _)); (conv => whnf); (fail_if_success (fail_if_success (with_reducible first | refine xstp ?_ | refine xgon ?_ | intro _)))))
    by_cases hok : okL l
    · rw [if_pos hok] at k4
      refine xcal (σ := []) (nl := []) (k4) ?_
      rintro v h' (⟨q, _⟩ | ⟨_, _, c3, rfl, rfl⟩) hcaps
      · exact absurd rfl q
      refine xret ?_
      repeat' (first | (fail_if_success (with_reducible refine xstp ?_)); first | ((fail_if_success (with_reducible first | refine xgon ?_ | intro _)); (conv => whnf); (fail_if_success (fail_if_success (with_reducible first | refine xstp ?_ | refine xgon ?_ | intro _)))))
      refine xcal (σ := [.whole 0]) (nl := []) (k5) ?_
      rintro v h' (⟨_, c4, rfl, rfl⟩ | ⟨q, _⟩) hcaps
      rotate_left 1
      · exact absurd hok q
      refine xret ?_
      repeat' (first | (fail_if_success (with_reducible refine xstp ?_)); first | ((with_reducible refine And.intro (fun (hb : _ = true) => ?_) (fun (hb : _ = false) => ?_)) <;> replace hb := xnC hb <;> (try first | exact xfC | exact bff hb (by assumption) | exact bff (by assumption) hb)) | ((fail_if_success (with_reducible first | refine xgon ?_ | intro _)); (conv => whnf); (fail_if_success (fail_if_success (with_reducible first | refine xstp ?_ | refine xgon ?_ | intro _)))))
      refine xcal (σ := [.whole 3, .whole 4]) (nl := []) (csameP true true (insL l) (insL l) c3 c4 (insL l).length (by omega) (Nat.le_refl _)) ?_
      rw [List.take_length, decide_eq_true rfl]
      rintro v h' ⟨rfl, rfl⟩ hcaps
      refine xret ?_
      repeat' (first | (fail_if_success (with_reducible refine xstp ?_)); first | ((with_reducible refine And.intro (fun (hb : _ = true) => ?_) (fun (hb : _ = false) => ?_)) <;> replace hb := xnC hb <;> (try first | exact xfC | exact bff hb (by assumption) | exact bff (by assumption) hb)) | ((fail_if_success (with_reducible first | refine xgon ?_ | intro _)); (conv => whnf); (fail_if_success (fail_if_success (with_reducible first | refine xstp ?_ | refine xgon ?_ | intro _)))))
      refine xcal (σ := []) (nl := []) (cawake42) ?_
      rintro v h' ⟨rfl, rfl⟩ hcaps
      refine xret ?_
      repeat' (first | (fail_if_success (with_reducible refine xstp ?_)); first | ((fail_if_success (with_reducible first | refine xgon ?_ | intro _)); (conv => whnf); (fail_if_success (fail_if_success (with_reducible first | refine xstp ?_ | refine xgon ?_ | intro _)))))
      refine FinK.mk ⟨[0], _, _, ⟨rfl, rfl⟩, ?_⟩
      (repeat' first | refine And.intro ?_ ?_ | exact xeC | fail)
    · rw [if_neg hok] at k4
      refine xcal (σ := []) (nl := []) (k4) ?_
      rintro v h' (⟨_, rfl, rfl⟩ | ⟨q, _⟩) hcaps
      rotate_left 1
      · exact absurd q (by decide)
      refine xret ?_
      repeat' (first | (fail_if_success (with_reducible refine xstp ?_)); first | ((fail_if_success (with_reducible first | refine xgon ?_ | intro _)); (conv => whnf); (fail_if_success (fail_if_success (with_reducible first | refine xstp ?_ | refine xgon ?_ | intro _)))))
      refine xcal (σ := [.whole 0]) (nl := []) (k5) ?_
      rintro v h' (⟨q, _⟩ | ⟨_, rfl, rfl⟩) hcaps
      · exact absurd q hok
      refine xret ?_
      repeat' (first | (fail_if_success (with_reducible refine xstp ?_)); first | ((with_reducible refine And.intro (fun (hb : _ = true) => ?_) (fun (hb : _ = false) => ?_)) <;> replace hb := xnC hb <;> (try first | exact xfC | exact bff hb (by assumption) | exact bff (by assumption) hb)) | ((fail_if_success (with_reducible first | refine xgon ?_ | intro _)); (conv => whnf); (fail_if_success (fail_if_success (with_reducible first | refine xstp ?_ | refine xgon ?_ | intro _)))))
      refine xcal (σ := [.whole 3, .whole 4]) (nl := [.one (rcR true List.nil 0), .one (rcR true List.nil 0)]) (csameP true true List.nil List.nil 0 0 0 (Nat.zero_le _) (Nat.le_refl _)) ?_
      rw [List.take_nil, decide_eq_true rfl]
      rintro v h' ⟨rfl, rfl⟩ hcaps
      refine xret ?_
      repeat' (first | (fail_if_success (with_reducible refine xstp ?_)); first | ((with_reducible refine And.intro (fun (hb : _ = true) => ?_) (fun (hb : _ = false) => ?_)) <;> replace hb := xnC hb <;> (try first | exact xfC | exact bff hb (by assumption) | exact bff (by assumption) hb)) | ((fail_if_success (with_reducible first | refine xgon ?_ | intro _)); (conv => whnf); (fail_if_success (fail_if_success (with_reducible first | refine xstp ?_ | refine xgon ?_ | intro _)))))
      refine xcal (σ := []) (nl := []) (cawake42) ?_
      rintro v h' ⟨rfl, rfl⟩ hcaps
      refine xret ?_
      repeat' (first | (fail_if_success (with_reducible refine xstp ?_)); first | ((fail_if_success (with_reducible first | refine xgon ?_ | intro _)); (conv => whnf); (fail_if_success (fail_if_success (with_reducible first | refine xstp ?_ | refine xgon ?_ | intro _)))))
      refine FinK.mk ⟨[0], _, _, ⟨rfl, rfl⟩, ?_⟩
      (repeat' first | refine And.intro ?_ ?_ | exact xeC | fail)
  · generalize wtE 300 l = e at *
    generalize wtS 300 l = s at *
    refine xret ?_
    repeat' (first | (fail_if_success (with_reducible refine xstp ?_)); first | ((fail_if_success (with_reducible first | refine xgon ?_ | intro _)); (conv => whnf); (fail_if_success (fail_if_success (with_reducible first | refine xstp ?_ | refine xgon ?_ | intro _)))))
    refine xcal (σ := [.whole 0]) (nl := []) (k1) ?_
    rintro v h' ⟨rfl, rfl⟩ hcaps
    refine xret ?_
    repeat' (first | (fail_if_success (with_reducible refine xstp ?_)); first | ((with_reducible refine And.intro (fun (hb : _ = true) => ?_) (fun (hb : _ = false) => ?_)) <;> replace hb := xnC hb <;> (try first | exact xfC | exact bff hb (by assumption) | exact bff (by assumption) hb)) | ((fail_if_success (with_reducible first | refine xgon ?_ | intro _)); (conv => whnf); (fail_if_success (fail_if_success (with_reducible first | refine xstp ?_ | refine xgon ?_ | intro _)))))
    refine xcal (σ := []) (nl := []) (cawake42) ?_
    rintro v h' ⟨rfl, rfl⟩ hcaps
    refine xret ?_
    repeat' (first | (fail_if_success (with_reducible refine xstp ?_)); first | ((fail_if_success (with_reducible first | refine xgon ?_ | intro _)); (conv => whnf); (fail_if_success (fail_if_success (with_reducible first | refine xstp ?_ | refine xgon ?_ | intro _)))))
    refine FinK.mk ⟨[0], _, _, ⟨rfl, rfl⟩, ?_⟩
    (repeat' first | refine And.intro ?_ ?_ | exact xeC | fail)
end Go.Proofs.YtenompgpjlbelaaGreatDoor


namespace Go.Proofs.YtenompgpjlbelaaGreatDoor
open Go.X Go.RowKit
set_option linter.unusedVariables false
theorem one_read {β : Nm} {W : World} {ck : Ck} (h : ck.holds β W (β 0 0)) (ho : ck.owned = false) : Fits β [.one ck] W ∧ ∀ f x, (Go.X.get [.one ck] f x).owned = false := by
  have hno := get_ones_own (h := [ck]) (by intro q hq; rw [List.mem_singleton.1 hq]; exact ho)
  exact ⟨fits_read (get_ones (h := [ck]) (fun f q hf => by
    match f, hf with
    | 0, hf => cases hf; exact h
    | f + 1, hf => simp at hf)) hno, hno⟩
theorem ft_Rc {l : List C} (h : FT [.i .i64, .s, .s] l) : ∃ x : Rc, l = encR x ∧ True := by
  obtain ⟨a, _, rfl, ha, h1⟩ := FT_i h
  obtain ⟨b, _, rfl, hb, h2⟩ := FT_s h1
  obtain ⟨c, _, rfl, hc, h3⟩ := FT_s h2
  obtain rfl := FT_nil h3
  exact ⟨⟨a, b.data.toList, c.data.toList⟩, by unfold encR; simp only [mkS_of], trivial⟩
theorem recs_view {W : World} {v : Value} (k : VK W (.sl [.i .i64, .s, .s]) v) (e : ∀ a n c, v = .slice (some a) n c → a.spot = none) :
    ∃ (A : Nat × Nat × Fl) (l : List Rc) (c : Nat), l.length ≤ 9223372036854775807 ∧ (∀ β f x, β f x = A → (C.sl f x 3 0 l.length c).ren β = v) ∧ ∀ β, (rcR false l c).holds β W A := by
  obtain ⟨A, n, c, g, hv, hh, hn, hc, hnc, hg⟩ := row_view (by rfl) k e
  obtain ⟨l, hl, hge, hp⟩ := list_of encR (Pr := fun _ => True) (fun i hi => ft_Rc (hg i hi))
  subst hl
  exact ⟨A, l, c, by unfold maxLen at hn; omega, hv, fun β => holds_row_congr (hh _ _) hge⟩
theorem u16_nat {a : Int} (w : (Lit.int .u16 a).wf = true) : ∃ u : Nat, a = (u : Int) ∧ u < 65536 := by
  have h : 0 ≤ a ∧ a < 65536 := by
    have e1 : IntKind.u16.min = 0 := by decide
    have e2 : IntKind.u16.max = 65535 := by decide
    simp only [Lit.wf, Bool.and_eq_true, decide_eq_true_eq, e1, e2] at w
    omega
  exact ⟨a.toNat, by omega, by omega⟩
end Go.Proofs.YtenompgpjlbelaaGreatDoor


namespace Go.Proofs.YtenompgpjlbelaaGreatDoor
open Go.X Go.RowKit
set_option linter.unusedVariables false
theorem walk_PlayerDiverges (W : World) (v0 : Value) (k0 : VK W (.sl [.i .i64, .s, .s]) v0) (e0 : ∀ a n c, v0 = .slice (some a) n c → a.spot = none) (a1 : Int) (w1 : (Lit.int .u16 a1).wf = true) :
    Calls Tryz.prog 4 #[v0, .int .u16 a1] W fun e W' => e = .returned (.bool true) ∧ Below W.heap.size W W' := by
  obtain ⟨A, l, c, hl, hv, hh⟩ := recs_view k0 e0
  obtain ⟨u, rfl, hu⟩ := u16_nat w1
  obtain ⟨hf, hno⟩ := one_read (β := fun _ _ => A) (W := W) (ck := rcR false l c) (hh _) rfl
  have hv' := hv (fun _ _ => A) 0 0 rfl
  have := glue ((ldiverges false l c u hu hl).mono' fun v h q => q.1) hf hno
  simp only [List.map_cons, List.map_nil, T.ren, hv', show ∀ (k : IntKind) (a : Int), C.ren (fun _ _ => A) (.i k a) = .int k a from fun _ _ => rfl] at this
  exact this
end Go.Proofs.YtenompgpjlbelaaGreatDoor

