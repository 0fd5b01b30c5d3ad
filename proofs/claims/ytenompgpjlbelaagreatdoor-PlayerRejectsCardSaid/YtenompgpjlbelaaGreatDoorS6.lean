/- Part 6 of the texts that a walk of this program rests on: an abstract machine, its soundness, contracts of functions. No statement of the seat is proved in this file. -/
import Derived.Test.YtenompgpjlbelaaGreatDoorS5
namespace Go.Proofs.YtenompgpjlbelaaGreatDoor
open Go.X
set_option linter.unusedSimpArgs false
set_option linter.unusedVariables false
open P4
open P5
theorem le8_drop : ∀ (l : List UInt8) (j : Nat), le8 (l.drop j) ≤ le8 l
  | _, 0 => Nat.le_refl _
  | [], j + 1 => by simp [le8]
  | b :: l, j + 1 => by
    have := le8_drop l j
    rw [List.drop_succ_cons, le8_cons]
    omega
set_option maxRecDepth 10000 in
theorem coffset (p : List UInt8) (h8 : p.length = 8) :
    Ctr Tryz.prog 81 [.c (.s (mkS p))] [] fun v h => (∃ z : Int, v = .c (.i .i64 z) ∧ (z = le8 p ∨ (z = -1 ∧ 1099511627776 < le8 p))) ∧ h = [] := by
  have hz8 : (mkS p).size = 8 := h8
  refine Ctr.mk' tbv mixed Tryz.func81 rfl rfl rfl (fun _ _ => by kernel_rfl) (by kernel_rfl) (by rfl) (by rfl) (by (repeat' first | refine And.intro ?_ ?_ | exact xeC | fail)) ?_
  repeat' (first | (fail_if_success (with_reducible refine xstp ?_)); first | (with_reducible intro hc; (try simp only [capsP, and_true] at hc); (try exact xfC)) | ((fail_if_success (with_reducible first | refine xgon ?_ | intro _)); (conv => whnf); (fail_if_success (fail_if_success (with_reducible first | refine xstp ?_ | refine xgon ?_ | intro _)))))
  refine LoopK.mk' {j : Nat // j ≤ 8}
    (fun ⟨j, _⟩ => ⟨[(0, .c (.s (mkS p))), (3, .c (.i .i64 (le8 (p.drop j) : Nat))), (4, .c (.i .i64 ((j : Int) - 1)))], []⟩) (fun j => j.1)
    ⟨⟨8, Nat.le_refl _⟩, [], ?_⟩ ?_
  · (repeat' first | refine And.intro ?_ ?_ | exact xeC | fail)
    rw [List.drop_of_length_le (by omega)]
    rfl
  rintro ⟨j, hj⟩
  have hdr := le8_drop p j
  cases j with
  | succ k =>
    have hdk := drop_consG p (k := k) (by omega)
    have ek : (((k + 1 : Nat) : Int) - 1).toNat = k := by omega
    have hby : ((p.getD k default).toNat : Int) ≤ 255 := by have := (p.getD k default).toNat_lt; omega
    have hgb : (mkS p).get! k = p.getD k default := getB (by omega)
    have hw : IntKind.i64.wrap (((mkS p).get! (((k + 1 : Nat) : Int) - 1).toNat).toNat : Int) = ((p.getD k default).toNat : Int) := by
      rw [ek, hgb, IntKind.wrap_i64]
      omega
    repeat' (first | (fail_if_success (with_reducible refine xstp ?_)); first | ((with_reducible refine And.intro (fun (hb : _ = true) => ?_) (fun (hb : _ = false) => ?_)) <;> replace hb := xnC hb <;> (try first | exact xfC | exact bff hb (by assumption) | exact bff (by assumption) hb)) | ((with_reducible refine And.intro ?_ ?_); focus exact xoC) | ((with_reducible refine OvK.fit ?_ ?_); focus exact xoC) | (with_reducible intro hc; (try simp only [capsP, and_true] at hc); (try exact xfC)) | ((fail_if_success (with_reducible first | refine xgon ?_ | intro _)); (conv => whnf); (fail_if_success (fail_if_success (with_reducible first | refine xstp ?_ | refine xgon ?_ | intro _)))))
    · refine FinK.mk ⟨[], _, _, ⟨⟨-1, rfl, .inr ⟨rfl, by omega⟩⟩, rfl⟩, ?_⟩
      (repeat' first | refine And.intro ?_ ?_ | exact xeC | fail)
    · refine ⟨⟨k, by omega⟩, [], by simp only; omega, ?_⟩
      (repeat' first | refine And.intro ?_ ?_ | exact xeC | fail)
      all_goals first
        | (rw [hw, hdk, le8_cons]; omega)
        | omega
  | zero =>
    repeat' (first | (fail_if_success (with_reducible refine xstp ?_)); first | ((with_reducible refine And.intro (fun (hb : _ = true) => ?_) (fun (hb : _ = false) => ?_)) <;> replace hb := xnC hb <;> (try first | exact xfC | exact bff hb (by assumption) | exact bff (by assumption) hb)) | (with_reducible intro hc; (try simp only [capsP, and_true] at hc); (try exact xfC)) | ((fail_if_success (with_reducible first | refine xgon ?_ | intro _)); (conv => whnf); (fail_if_success (fail_if_success (with_reducible first | refine xstp ?_ | refine xgon ?_ | intro _)))))
    rw [List.drop_zero]
    refine FinK.mk ⟨[], _, _, ⟨⟨le8 p, rfl, .inl rfl⟩, rfl⟩, ?_⟩
    (repeat' first | refine And.intro ?_ ?_ | exact xeC | fail)
structure Er where
  (e : En) (cap : Nat)
deriving Inhabited
def encEr (F : Nat) (X : List Er) (k : Nat) : List C := [.i .i64 ((X.getD k default).e.off : Nat), .i .i64 ((X.getD k default).e.fi : Nat), .i .i64 ((X.getD k default).e.la : Nat), .sl F k 2 0 (X.getD k default).e.T.length (X.getD k default).cap]
abbrev erR (F : Nat) (X : List Er) (c : Nat) : Ck := .row true true 166 4 X.length c (encEr F X)
def trC (y : Er) : Ck := tlR true y.e.T y.cap
theorem trF : FlatR trC := fun _ => ⟨_, _, _, _, _, _, rfl⟩
abbrev trG (X : List Er) (k : Nat) : Ck := ixG trC X k
theorem trG_rk (σ : List Sg) (N : Nat) (X : List Er) (x : Nat) : (trG X x).rk σ N = trG X x := ixG_rk trF σ N X x
/-- An entry that may stand in an index. -/
def okEn (e : En) : Prop := (1 ≤ e.T.length ∧ e.fi ≤ e.la) ∧ okTs e.T
instance (e : En) : Decidable (okEn e) := by unfold okEn; infer_instance
end Go.Proofs.YtenompgpjlbelaaGreatDoor


namespace Go.Proofs.YtenompgpjlbelaaGreatDoor
open Go.X
set_option linter.unusedSimpArgs false
set_option linter.unusedVariables false
open P4
open P5
theorem okTs_snoc {U : List Tl} {t : Tl} : okTs (U ++ [t]) ↔ okTs U ∧ isT t.1 ∧ (0 < U.length → (U.getD (U.length - 1) default).1 < t.1) ∧ 1 ≤ t.2 := by
  have g1 : ∀ i, i < U.length → (U ++ [t]).getD i default = U.getD i default := fun i hi => by simp [List.getD, List.getElem?_append_left hi]
  have g2 : (U ++ [t]).getD U.length default = t := by simp [List.getD]
  constructor
  · intro h
    refine ⟨fun i hi => ?_, ?_⟩
    · have := h i (by rw [List.length_append]; omega)
      unfold okT1 at this ⊢
      rw [g1 i hi] at this
      refine ⟨this.1, fun h0 => ?_, this.2.2⟩
      have h2 := this.2.1 h0
      rw [g1 (i - 1) (by omega)] at h2
      exact h2
    · have := h U.length (by rw [List.length_append, List.length_singleton]; omega)
      unfold okT1 at this
      rw [g2] at this
      refine ⟨this.1, fun h0 => ?_, this.2.2⟩
      have h2 := this.2.1 h0
      rw [g1 (U.length - 1) (by omega)] at h2
      exact h2
  · rintro ⟨h1, h2, h3, h4⟩ i hi
    rw [List.length_append, List.length_singleton] at hi
    unfold okT1
    rcases Nat.lt_or_ge i U.length with q | q
    · rw [g1 i q]
      have := h1 i q
      unfold okT1 at this
      refine ⟨this.1, fun h0 => ?_, this.2.2⟩
      rw [g1 (i - 1) (by omega)]
      exact this.2.1 h0
    · obtain rfl : i = U.length := by omega
      rw [g2]
      refine ⟨h2, fun h0 => ?_, h4⟩
      rw [g1 (U.length - 1) (by omega)]
      exact h3 h0
theorem bl_lt2 {t u : List UInt8} (h : t < u) : Op.bytesLess (mkS t).toList (mkS u).toList = true := by
  rw [show (mkS t).toList = t from ByteArray.toList_eq _, show (mkS u).toList = u from ByteArray.toList_eq _, bless]
  exact decide_eq_true h
theorem bl_lt3 {t u : List UInt8} (h : Op.bytesLess (mkS t).toList (mkS u).toList = true) : t < u := by
  rw [show (mkS t).toList = t from ByteArray.toList_eq _, show (mkS u).toList = u from ByteArray.toList_eq _, bless] at h
  exact of_decide_eq_true h
theorem okTs_nil : okTs [] := fun i hi => absurd hi (Nat.not_lt_zero i)
set_option maxRecDepth 10000 in
set_option maxHeartbeats 8000000 in
theorem centry (s : ByteArray) (a0 : Nat) (ha : a0 ≤ s.size) (hs : s.size ≤ 100000000) :
    Ctr Tryz.prog 105 [.a (rv s a0 0)] []
      fun v h => ∃ c', v = .t [.a (rv s (enT s a0 0).2.1 (enT s a0 0).2.2), .a [.i .i64 ((rdEn s a0 0).off : Nat), .i .i64 ((rdEn s a0 0).fi : Nat), .i .i64 ((rdEn s a0 0).la : Nat), .sl 0 0 2 0 (rdEn s a0 0).T.length c'], .c (.b (decide (1 ≤ (sm4 s a0 0).1 ∧ (rdEn s a0 0).fi ≤ (rdEn s a0 0).la ∧ okTs (rdEn s a0 0).T)))] ∧ h = [.one (tlR true (rdEn s a0 0).T c')] := by
  have hm := sm_mono (e := 0) ha
  refine Ctr.mk' tbv mixed Tryz.func105 rfl rfl rfl (fun _ _ => by kernel_rfl) (by kernel_rfl) (by rfl) (by rfl) (by (repeat' first | refine And.intro ?_ ?_ | exact xeC | fail)) ?_
  repeat' (first | (fail_if_success (with_reducible refine xstp ?_)); first | (with_reducible intro hc; (try simp only [capsP, and_true] at hc); (try exact xfC)) | ((fail_if_success (with_reducible first | refine xgon ?_ | intro _)); (conv => whnf); (fail_if_success (fail_if_success (with_reducible first | refine xstp ?_ | refine xgon ?_ | intro _)))))
  refine xcal (σ := []) (nl := []) (cRAt s a0 0 ha hs) ?_
  rintro v h' ⟨rfl, rfl⟩ hcaps
  rw [show rdAt s a0 0 = sm1 s a0 0 from rfl]
  refine xret ?_
  repeat' (first | (fail_if_success (with_reducible refine xstp ?_)); first | ((fail_if_success (with_reducible first | refine xgon ?_ | intro _)); (conv => whnf); (fail_if_success (fail_if_success (with_reducible first | refine xstp ?_ | refine xgon ?_ | intro _)))))
  refine xcal (σ := []) (nl := []) (cRAt s (sm1 s a0 0).2.1 (sm1 s a0 0).2.2 hm.1 hs) ?_
  rintro v h' ⟨rfl, rfl⟩ hcaps
  rw [show rdAt s (sm1 s a0 0).2.1 (sm1 s a0 0).2.2 = sm2 s a0 0 from rfl]
  refine xret ?_
  repeat' (first | (fail_if_success (with_reducible refine xstp ?_)); first | ((fail_if_success (with_reducible first | refine xgon ?_ | intro _)); (conv => whnf); (fail_if_success (fail_if_success (with_reducible first | refine xstp ?_ | refine xgon ?_ | intro _)))))
  refine xcal (σ := []) (nl := []) (cRAt s (sm2 s a0 0).2.1 (sm2 s a0 0).2.2 hm.2.1 hs) ?_
  rintro v h' ⟨rfl, rfl⟩ hcaps
  rw [show rdAt s (sm2 s a0 0).2.1 (sm2 s a0 0).2.2 = sm3 s a0 0 from rfl]
  refine xret ?_
  repeat' (first | (fail_if_success (with_reducible refine xstp ?_)); first | ((fail_if_success (with_reducible first | refine xgon ?_ | intro _)); (conv => whnf); (fail_if_success (fail_if_success (with_reducible first | refine xstp ?_ | refine xgon ?_ | intro _)))))
  refine xcal (σ := []) (nl := []) (cRAt s (sm3 s a0 0).2.1 (sm3 s a0 0).2.2 hm.2.2.1 hs) ?_
  rintro v h' ⟨rfl, rfl⟩ hcaps
  rw [show rdAt s (sm3 s a0 0).2.1 (sm3 s a0 0).2.2 = sm4 s a0 0 from rfl]
  refine xret ?_
  have hT : (rdEn s a0 0).T = (tlN s (sm4 s a0 0).1 (sm4 s a0 0).2.1 (sm4 s a0 0).2.2).1 := rfl
  have hE : enT s a0 0 = tlN s (sm4 s a0 0).1 (sm4 s a0 0).2.1 (sm4 s a0 0).2.2 := rfl
  have hoff : (rdEn s a0 0).off = (sm1 s a0 0).1 := rfl
  have hfi : (rdEn s a0 0).fi = (sm2 s a0 0).1 := rfl
  have hla : (rdEn s a0 0).la = (sm3 s a0 0).1 := rfl
  rw [hT, hE, hoff, hfi, hla]
  have hk4 : (((sm4 s a0 0).1 : Nat) : Int) ≤ 1099511627776 := rdAt_le s _ _
  have ha4 := hm.2.2.2.1
  generalize sm1 s a0 0 = q1 at *
  generalize sm2 s a0 0 = q2 at *
  generalize sm3 s a0 0 = q3 at *
  generalize sm4 s a0 0 = q4 at *
  obtain ⟨k4, a4, e4⟩ := q4
  simp only at hk4 ha4
  simp only
  repeat' (first | (fail_if_success (with_reducible refine xstp ?_)); first | ((with_reducible refine And.intro (fun (hb : _ = true) => ?_) (fun (hb : _ = false) => ?_)) <;> replace hb := xnC hb <;> (try first | exact xfC | exact bff hb (by assumption) | exact bff (by assumption) hb)) | ((fail_if_success (with_reducible first | refine xgon ?_ | intro _)); (conv => whnf); (fail_if_success (fail_if_success (with_reducible first | refine xstp ?_ | refine xgon ?_ | intro _)))))
  · skip
    refine LoopK.mk' {p : Nat × Nat × Nat × List Tl × Bool × Nat // p.1 ≤ k4 ∧ TlI s k4 a4 e4 p.1 p.2.1 p.2.2.1 p.2.2.2.1 ∧ p.2.2.2.1.length + p.1 = k4 ∧ (p.2.2.2.2.1 = true ↔ 1 ≤ k4 ∧ q2.1 ≤ q3.1 ∧ okTs p.2.2.2.1)}
      (fun ⟨(k, a, e, U, ok, c), _⟩ => ⟨[(1, .c (.p 0 0 0)), (2, .c (.p 1 0 0)), (3, .c (.p 2 0 0)), (5, .c (.p 3 0 0)), (6, .c (.i .i64 (k4 : Nat))), (7, .c (.b ok)), (8, .c (.i .i64 (U.length : Nat)))],
        [.one (.cells true (rv s a e)), .one (.cells true (rv (mkS []) 0 0)), .one (.cells true [.i .i64 0, .i .i64 0, .i .i64 0, .nils]), .one (.cells true [.i .i64 (q1.1 : Nat), .i .i64 (q2.1 : Nat), .i .i64 (q3.1 : Nat), .sl 4 0 2 0 U.length c]), .one (tlR true U c)]⟩) (fun p => p.1.1)
      ⟨⟨(k4, a4, e4, [], (decide (((q2.1 : Nat) : Int) ≤ (q3.1 : Nat))), 0), Nat.le_refl _, ⟨ha4, Nat.zero_le _, rfl⟩, by simp, (by constructor; intro h; have := of_decide_eq_true h; exact ⟨by omega, by omega, okTs_nil⟩; intro h; exact decide_eq_true (by omega))⟩, [0, 1, 2, 3, 99], ?_⟩ ?_
    · (repeat' first | refine And.intro ?_ ?_ | exact xeC | fail)
      all_goals first
        | (intro i hi; exact absurd hi (Nat.not_lt_zero i))
        | skip
    rintro ⟨⟨k, a, e, U, ok, c⟩, hk, hI, hU, hok⟩
    simp only at hk hI hU hok
    have hIl := hI.le
    have hIn := hI.len
    repeat' (first | (fail_if_success (with_reducible refine xstp ?_)); first | ((with_reducible refine And.intro (fun (hb : _ = true) => ?_) (fun (hb : _ = false) => ?_)) <;> replace hb := xnC hb <;> (try first | exact xfC | exact bff hb (by assumption) | exact bff (by assumption) hb)) | ((with_reducible refine And.intro ?_ ?_); focus exact xoC) | (with_reducible intro hc; (try simp only [capsP, and_true] at hc); (try exact xfC)) | ((fail_if_success (with_reducible first | refine xgon ?_ | intro _)); (conv => whnf); (fail_if_success (fail_if_success (with_reducible first | refine xstp ?_ | refine xgon ?_ | intro _)))))
    · obtain ⟨k2, rfl⟩ : ∃ k2, k = k2 + 1 := ⟨k - 1, by omega⟩
      obtain rfl : e = 0 := by omega
      rw [if_pos rfl] at hIn
      have hm1 := rdT_mono (e := 0) (m := 40) hIl
      have hst := hI.step
      have htl : (tlT s a).1.length ≤ 40 := rdT_len s a 0 40
      refine xcal (σ := []) (nl := []) (cRText s a 0 40 hIl (by omega) (by omega)) ?_
      rintro v h' ⟨rfl, rfl⟩ hcaps
      rw [show rdT s a 0 40 = tlT s a from rfl]
      refine xret ?_
      repeat' (first | (fail_if_success (with_reducible refine xstp ?_)); first | ((fail_if_success (with_reducible first | refine xgon ?_ | intro _)); (conv => whnf); (fail_if_success (fail_if_success (with_reducible first | refine xstp ?_ | refine xgon ?_ | intro _)))))
      refine xcal (σ := []) (nl := []) (cRAt s (tlT s a).2.1 (tlT s a).2.2 hm1.2 hs) ?_
      rintro v h' ⟨rfl, rfl⟩ hcaps
      rw [show rdAt s (tlT s a).2.1 (tlT s a).2.2 = tlM s a from rfl]
      refine xret ?_
      generalize tlM s a = qm at *
      generalize tlT s a = qt at *
      repeat' (first | (fail_if_success (with_reducible refine xstp ?_)); first | ((fail_if_success (with_reducible first | refine xgon ?_ | intro _)); (conv => whnf); (fail_if_success (fail_if_success (with_reducible first | refine xstp ?_ | refine xgon ?_ | intro _)))))
      have hsn := okTs_snoc (U := U) (t := (qt.1, qm.1))
      have hsf : ¬ (isT qt.1 ∧ (0 < U.length → (U.getD (U.length - 1) default).1 < qt.1) ∧ 1 ≤ (qt.1, qm.1).2) → (false = true ↔ 1 ≤ k4 ∧ q2.1 ≤ q3.1 ∧ okTs (U ++ [(qt.1, qm.1)])) := fun h => ⟨fun q => (by cases q), fun q => absurd (hsn.1 q.2.2).2 h⟩
      have hst2 : (isT qt.1 ∧ (0 < U.length → (U.getD (U.length - 1) default).1 < qt.1) ∧ 1 ≤ (qt.1, qm.1).2) → (ok = true ↔ 1 ≤ k4 ∧ q2.1 ≤ q3.1 ∧ okTs (U ++ [(qt.1, qm.1)])) := fun h => hok.trans ⟨fun q => ⟨q.1, q.2.1, hsn.2 ⟨q.2.2, h⟩⟩, fun q => ⟨q.1, q.2.1, (hsn.1 q.2.2).1⟩⟩
      refine xcal (σ := []) (nl := []) (cisTR qt.1 (by omega)) ?_
      by_cases hit : isT qt.1
      · rw [decide_eq_true hit]
        rintro v h' ⟨rfl, rfl⟩ hcaps
        refine xret ?_
        repeat' (first | (fail_if_success (with_reducible refine xstp ?_)); first | ((with_reducible refine And.intro (fun (hb : _ = true) => ?_) (fun (hb : _ = false) => ?_)) <;> replace hb := xnC hb <;> (try first | exact xfC | exact bff hb (by assumption) | exact bff (by assumption) hb)) | ((with_reducible refine And.intro ?_ ?_); focus exact xoC) | ((with_reducible refine OvK.fit ?_ ?_); focus exact xoC) | ((with_reducible refine Or.inl ⟨?_, ?_, ?_⟩); (focus rfl); focus exact xaC) | (with_reducible intro hc; (try simp only [capsP, and_true] at hc); (try exact xfC)) | ((fail_if_success (with_reducible first | refine xgon ?_ | intro _)); (conv => whnf); (fail_if_success (fail_if_success (with_reducible first | refine xstp ?_ | refine xgon ?_ | intro _)))))
        · skip
          rename_i c2
          refine ⟨⟨(k2, qm.2.1, qm.2.2, U ++ [(qt.1, qm.1)], false, c2), by omega, hst, by rw [List.length_append, List.length_singleton]; omega, (hsf fun q => by have := q.2.2; simp only at this; omega)⟩, [0, 1, 2, 3, 7], by simp only; omega, ?_⟩
          (repeat' first | refine And.intro ?_ ?_ | exact xeC | fail)
          all_goals first | omega | (simp only [List.length_append, List.length_singleton]; done) | (rw [List.length_append, List.length_singleton]; omega) | (intro i hi; (first | refine app_rowG _ _ _ _ ?_ i hi | refine app_row _ _ _ ?_ i hi); first | rfl | (simp only [Int.toNat_natCast, Nat.zero_add]; rfl))
        · skip
          rename_i c2
          refine ⟨⟨(k2, qm.2.1, qm.2.2, U ++ [(qt.1, qm.1)], false, c2), by omega, hst, by rw [List.length_append, List.length_singleton]; omega, (hsf fun q => by have h9 := bl_lt2 (q.2.1 (by omega)); rw [show U.length - 1 = ((U.length : Int) - 1).toNat by omega, hb] at h9; cases h9)⟩, [0, 1, 2, 3, 7], by simp only; omega, ?_⟩
          (repeat' first | refine And.intro ?_ ?_ | exact xeC | fail)
          all_goals first | omega | (simp only [List.length_append, List.length_singleton]; done) | (rw [List.length_append, List.length_singleton]; omega) | (intro i hi; (first | refine app_rowG _ _ _ _ ?_ i hi | refine app_row _ _ _ ?_ i hi); first | rfl | (simp only [Int.toNat_natCast, Nat.zero_add]; rfl))
        · skip
          rename_i c2
          refine ⟨⟨(k2, qm.2.1, qm.2.2, U ++ [(qt.1, qm.1)], ok, c2), by omega, hst, by rw [List.length_append, List.length_singleton]; omega, (hst2 ⟨hit, fun _ => bl_lt3 (by rw [show U.length - 1 = ((U.length : Int) - 1).toNat by omega]; assumption), by simp only; omega⟩)⟩, [0, 1, 2, 3, 7], by simp only; omega, ?_⟩
          (repeat' first | refine And.intro ?_ ?_ | exact xeC | fail)
          all_goals first | omega | (simp only [List.length_append, List.length_singleton]; done) | (rw [List.length_append, List.length_singleton]; omega) | (intro i hi; (first | refine app_rowG _ _ _ _ ?_ i hi | refine app_row _ _ _ ?_ i hi); first | rfl | (simp only [Int.toNat_natCast, Nat.zero_add]; rfl))
        · skip
          rename_i c2
          refine ⟨⟨(k2, qm.2.1, qm.2.2, U ++ [(qt.1, qm.1)], ok, c2), by omega, hst, by rw [List.length_append, List.length_singleton]; omega, (hst2 ⟨hit, fun h => by omega, by simp only; omega⟩)⟩, [0, 1, 2, 3, 7], by simp only; omega, ?_⟩
          (repeat' first | refine And.intro ?_ ?_ | exact xeC | fail)
          all_goals first | omega | (simp only [List.length_append, List.length_singleton]; done) | (rw [List.length_append, List.length_singleton]; omega) | (intro i hi; (first | refine app_rowG _ _ _ _ ?_ i hi | refine app_row _ _ _ ?_ i hi); first | rfl | (simp only [Int.toNat_natCast, Nat.zero_add]; rfl))
      · rw [decide_eq_false hit]
        rintro v h' ⟨rfl, rfl⟩ hcaps
        refine xret ?_
        repeat' (first | (fail_if_success (with_reducible refine xstp ?_)); first | ((with_reducible refine And.intro (fun (hb : _ = true) => ?_) (fun (hb : _ = false) => ?_)) <;> replace hb := xnC hb <;> (try first | exact xfC | exact bff hb (by assumption) | exact bff (by assumption) hb)) | ((with_reducible refine And.intro ?_ ?_); focus exact xoC) | ((with_reducible refine OvK.fit ?_ ?_); focus exact xoC) | ((with_reducible refine Or.inl ⟨?_, ?_, ?_⟩); (focus rfl); focus exact xaC) | (with_reducible intro hc; (try simp only [capsP, and_true] at hc); (try exact xfC)) | ((fail_if_success (with_reducible first | refine xgon ?_ | intro _)); (conv => whnf); (fail_if_success (fail_if_success (with_reducible first | refine xstp ?_ | refine xgon ?_ | intro _)))))
        rename_i c2
        refine ⟨⟨(k2, qm.2.1, qm.2.2, U ++ [(qt.1, qm.1)], false, c2), by omega, hst, by rw [List.length_append, List.length_singleton]; omega, (hsf fun q => hit q.1)⟩, [0, 1, 2, 3, 7], by simp only; omega, ?_⟩
        (repeat' first | refine And.intro ?_ ?_ | exact xeC | fail)
        all_goals first | omega | (simp only [List.length_append, List.length_singleton]; done) | (rw [List.length_append, List.length_singleton]; omega) | (intro i hi; (first | refine app_rowG _ _ _ _ ?_ i hi | refine app_row _ _ _ ?_ i hi); first | rfl | (simp only [Int.toNat_natCast, Nat.zero_add]; rfl))
    all_goals (
      have hq := hI.q
      rw [tlN_stop (s := s) (k := k) (a := a) (e := e) (by omega)] at hq
      simp only [List.append_nil] at hq
      have hod : decide (1 ≤ k4 ∧ q2.1 ≤ q3.1 ∧ okTs U) = ok := by
        cases ok with
        | true => exact decide_eq_true (hok.1 rfl)
        | false => exact decide_eq_false (fun q => by have := hok.2 q; cases this)
      rw [hq]
      simp only
      rw [hod]
      refine FinK.mk ⟨[4], _, _, ⟨c, rfl, rfl⟩, ?_⟩
      (repeat' first | refine And.intro ?_ ?_ | exact xeC | fail)
      )
  · skip
    refine LoopK.mk' {p : Nat × Nat × Nat × List Tl × Bool × Nat // p.1 ≤ k4 ∧ TlI s k4 a4 e4 p.1 p.2.1 p.2.2.1 p.2.2.2.1 ∧ p.2.2.2.1.length + p.1 = k4 ∧ (p.2.2.2.2.1 = true ↔ 1 ≤ k4 ∧ q2.1 ≤ q3.1 ∧ okTs p.2.2.2.1)}
      (fun ⟨(k, a, e, U, ok, c), _⟩ => ⟨[(1, .c (.p 0 0 0)), (2, .c (.p 1 0 0)), (3, .c (.p 2 0 0)), (5, .c (.p 3 0 0)), (6, .c (.i .i64 (k4 : Nat))), (7, .c (.b ok)), (8, .c (.i .i64 (U.length : Nat)))],
        [.one (.cells true (rv s a e)), .one (.cells true (rv (mkS []) 0 0)), .one (.cells true [.i .i64 0, .i .i64 0, .i .i64 0, .nils]), .one (.cells true [.i .i64 (q1.1 : Nat), .i .i64 (q2.1 : Nat), .i .i64 (q3.1 : Nat), .sl 4 0 2 0 U.length c]), .one (tlR true U c)]⟩) (fun p => p.1.1)
      ⟨⟨(k4, a4, e4, [], false, 0), Nat.le_refl _, ⟨ha4, Nat.zero_le _, rfl⟩, by simp, (by constructor; intro h; cases h; intro h; omega)⟩, [0, 1, 2, 3, 99], ?_⟩ ?_
    · (repeat' first | refine And.intro ?_ ?_ | exact xeC | fail)
      all_goals first
        | (intro i hi; exact absurd hi (Nat.not_lt_zero i))
        | skip
    rintro ⟨⟨k, a, e, U, ok, c⟩, hk, hI, hU, hok⟩
    simp only at hk hI hU hok
    have hIl := hI.le
    have hIn := hI.len
    repeat' (first | (fail_if_success (with_reducible refine xstp ?_)); first | ((with_reducible refine And.intro (fun (hb : _ = true) => ?_) (fun (hb : _ = false) => ?_)) <;> replace hb := xnC hb <;> (try first | exact xfC | exact bff hb (by assumption) | exact bff (by assumption) hb)) | ((with_reducible refine And.intro ?_ ?_); focus exact xoC) | (with_reducible intro hc; (try simp only [capsP, and_true] at hc); (try exact xfC)) | ((fail_if_success (with_reducible first | refine xgon ?_ | intro _)); (conv => whnf); (fail_if_success (fail_if_success (with_reducible first | refine xstp ?_ | refine xgon ?_ | intro _)))))
    all_goals (
      have hq := hI.q
      rw [tlN_stop (s := s) (k := k) (a := a) (e := e) (by omega)] at hq
      simp only [List.append_nil] at hq
      have hod : decide (1 ≤ k4 ∧ q2.1 ≤ q3.1 ∧ okTs U) = ok := by
        cases ok with
        | true => exact decide_eq_true (hok.1 rfl)
        | false => exact decide_eq_false (fun q => by have := hok.2 q; cases this)
      rw [hq]
      simp only
      rw [hod]
      refine FinK.mk ⟨[4], _, _, ⟨c, rfl, rfl⟩, ?_⟩
      (repeat' first | refine And.intro ?_ ?_ | exact xeC | fail)
      )
end Go.Proofs.YtenompgpjlbelaaGreatDoor


namespace Go.Proofs.YtenompgpjlbelaaGreatDoor
open Go.X
set_option linter.unusedSimpArgs false
set_option linter.unusedVariables false
open P4
open P5
theorem xmT {p : Prop} (h : p := by first | exact fun _ => trivial | exact fun x => ixG_le trF | exact fun x => ixG_bel trF | exact fun x => ixG_belR trF | fail) : p := h
abbrev ers (X : List Er) : List En := X.map Er.e
theorem ers_snoc (X : List Er) (y : Er) : ers (X ++ [y]) = ers X ++ [y.e] := by simp [ers]
theorem getErs (X : List Er) (i : Nat) : (ers X).getD i default = (X.getD i default).e := by
  simp only [ers, List.getD, List.getElem?_map]
  cases X[i]? <;> rfl
theorem erApp {σ : List Sg} {F F' G : Nat} {X : List Er} {y : Er} {g : Nat → List C} (hk : ∀ i, i ≠ X.length → key σ 0 F' i = (F, i)) (hn : key σ 0 F' X.length = (G, 0))
    (hg : g 0 = [.i .i64 (y.e.off : Nat), .i .i64 (y.e.fi : Nat), .i .i64 (y.e.la : Nat), .sl G 0 2 0 y.e.T.length y.cap]) : ∀ i, i < (X ++ [y]).length → appF X.length (encEr F X) 0 g i = List.map (C.rk σ 0) (encEr F' (X ++ [y]) i) := by
  intro i hi
  unfold appF
  by_cases h : i < X.length
  · rw [if_pos h]
    have e : (X ++ [y]).getD i default = X.getD i default := by simp [List.getD, List.getElem?_append_left h]
    simp only [encEr, List.map_cons, List.map_nil, C.rk, e, hk i (by omega)]
  · obtain rfl : i = X.length := by simp at hi; omega
    rw [if_neg h, Nat.sub_self, hg]
    have e : (X ++ [y]).getD X.length default = y := by simp [List.getD]
    simp only [encEr, List.map_cons, List.map_nil, C.rk, e, hn]
theorem rdAt_z {s : ByteArray} {a e : Nat} (h : (rdAt s a e).2.2 ≠ 0) : (rdAt s a e).1 = 0 := by
  unfold rdAt at h ⊢
  rw [rdS_U] at h ⊢
  split
  · rename_i h1
    rw [if_pos h1] at h
    split
    · rfl
    · rename_i h2
      rw [if_neg h2] at h
      exact absurd h1 h
  · rfl
theorem tl_pos {s : ByteArray} {a e : Nat} : 1 ≤ (sm4 s a e).1 ↔ 1 ≤ (rdEn s a e).T.length := by
  have hT : (rdEn s a e).T = (tlN s (sm4 s a e).1 (sm4 s a e).2.1 (sm4 s a e).2.2).1 := rfl
  have hz : (sm4 s a e).2.2 ≠ 0 → (sm4 s a e).1 = 0 := rdAt_z
  rw [hT]
  generalize sm4 s a e = q at *
  obtain ⟨n, b, f⟩ := q
  simp only at hz ⊢
  cases n with
  | zero => simp [tlN]
  | succ n =>
    have hf : f = 0 := Decidable.of_not_not fun h => by have := hz h; omega
    unfold tlN
    rw [if_pos hf]
    simp
theorem kind2_ok {s : ByteArray} (h : (rdAt s 0 0).1 = 2) : (rdU s 0 0).1 = 2 ∧ rdAt s 0 0 = rdU s 0 0 := by
  unfold rdAt at h ⊢
  rw [rdS_U] at h ⊢
  by_cases hu : (rdU s 0 0).2.2 = 0
  · rw [if_pos hu] at h ⊢
    by_cases hq : (1099511627776 : Int) < 0 ∨ 1099511627776 < (((rdU s 0 0).1 : Nat) : Int)
    · rw [if_pos hq] at h; simp at h
    · rw [if_neg hq] at h ⊢
      exact ⟨h, rfl⟩
  · rw [if_neg hu] at h; simp at h
theorem kind2_no {s : ByteArray} (h : (rdAt s 0 0).1 ≠ 2) : ixL s = ([], false) := by
  unfold ixL
  rw [if_neg]
  intro q
  apply h
  have hu : (rdU s 0 0).2.2 = 0 := Decidable.of_not_not fun hn => by
    have := (rdU_err s 0 0 hn).1
    omega
  unfold rdAt
  rw [rdS_U, if_pos hu, if_neg (by rw [q]; omega)]
  exact q
/-- The entries so far may stand in an index. -/
def okEs (L : List En) (ix : Nat) : Prop := ∀ i, i < L.length → okE1 L ix i
theorem okEs_snoc {L : List En} {y : En} {ix : Nat} : okEs (L ++ [y]) ix ↔ okEs L ix ∧
    ((L.length = 0 → y.off = 5) ∧ (0 < L.length → (L.getD (L.length - 1) default).off < y.off) ∧ y.off < ix) ∧ ((0 < L.length → (L.getD (L.length - 1) default).la ≤ y.fi) ∧ y.fi ≤ y.la ∧ 1 ≤ y.T.length) ∧ okTs y.T := by
  have g1 : ∀ i, i < L.length → (L ++ [y]).getD i default = L.getD i default := fun i hi => by simp [List.getD, List.getElem?_append_left hi]
  have g2 : (L ++ [y]).getD L.length default = y := by simp [List.getD]
  have g3 : ∀ i, i < L.length → (okE1 (L ++ [y]) ix i ↔ okE1 L ix i) := fun i hi => by
    unfold okE1
    rw [g1 i hi, g1 (i - 1) (by omega)]
  have g4 : okE1 (L ++ [y]) ix L.length ↔ ((L.length = 0 → y.off = 5) ∧ (0 < L.length → (L.getD (L.length - 1) default).off < y.off) ∧ y.off < ix) ∧ ((0 < L.length → (L.getD (L.length - 1) default).la ≤ y.fi) ∧ y.fi ≤ y.la ∧ 1 ≤ y.T.length) ∧ okTs y.T := by
    unfold okE1
    rw [g2]
    rcases Nat.eq_zero_or_pos L.length with q | q
    · simp [q]
    · rw [g1 (L.length - 1) (by omega)]
  rw [← g4]
  constructor
  · intro h
    exact ⟨fun i hi => (g3 i hi).1 (h i (by rw [List.length_append]; omega)), h L.length (by rw [List.length_append, List.length_singleton]; omega)⟩
  · rintro ⟨h1, h2⟩ i hi
    rw [List.length_append, List.length_singleton] at hi
    rcases Nat.lt_or_ge i L.length with q | q
    · exact (g3 i q).2 (h1 i q)
    · obtain rfl : i = L.length := by omega
      exact h2
theorem ix_fin {s : ByteArray} {q0 : Nat × Nat × Nat} {k0 a0 e0 k a e ix : Nat} {X : List Er} (hq0 : rdAt s 0 0 = q0) (hr0 : rdAt s q0.2.1 q0.2.2 = (k0, a0, e0)) (hI : EnI s k0 a0 e0 k a e (ers X))
    (hXk : X.length + k = k0) (hst : k = 0 ∨ e ≠ 0) : ((ixL s).2 = true ∧ ordE (ixL s).1 ix ↔ q0.1 = 2 ∧ endV s a e = 0 ∧ okEs (ers X) ix ∧ (k0 = 0 → ix = 5)) ∧ (q0.1 = 2 → (ixL s).1 = ers X) := by
  have hq := hI.q
  rw [enN_stop (s := s) (k := k) (a := a) (e := e) hst] at hq
  simp only [List.append_nil] at hq
  by_cases h2 : q0.1 = 2
  · obtain ⟨h3, h4⟩ := kind2_ok (s := s) (by rw [hq0]; exact h2)
    rw [hq0] at h4
    have hx : ixL s = (ers X, decide (endV s a e = 0)) := by
      unfold ixL
      rw [if_pos h3, ← h4, hr0]
      simp only
      rw [hq]
    have hel : (ers X).length = X.length := List.length_map _
    rw [hx]
    refine ⟨?_, fun _ => rfl⟩
    simp only [decide_eq_true_iff]
    unfold ordE
    rw [hel]
    constructor
    · rintro ⟨g1, g2, g3⟩
      exact ⟨h2, g1, fun i hi => g3 i (by rw [hel] at hi; exact hi), fun h0 => g2 (by omega)⟩
    · rintro ⟨_, g1, g2, g3⟩
      refine ⟨g1, fun h0 => g3 ?_, fun i hi => g2 i (by rw [hel]; exact hi)⟩
      have he : e = 0 := Decidable.of_not_not fun h => by
        unfold endV at g1
        rw [if_neg h] at g1
        exact h g1
      omega
  · have := kind2_no (s := s) (by rw [hq0]; exact h2)
    rw [this]
    exact ⟨⟨fun h => (by cases h.1), fun h => absurd h.1 h2⟩, fun h => absurd h h2⟩
theorem rH42zcX0 {σ : List Sg} {H h' : List Fam} {v : T} {K : T → List Fam → Prop} {H' : List Fam} {v' : T} {N : Nat} (hk : K v' H') (hN : H.length = N := by (try simp only [↓List.length_cons, ↓List.length_nil, Nat.reduceAdd]) <;> rfl) (h : givesF σ N H σ h' = some H' := by (try simp (maxSteps := 1000000) only [givesF, setF, updF, Fam.zeroth, Fam.rk, Ck.rk, C.rk, E.rk, T.rk, key, List.map_cons, List.map_nil, List.cons_append, List.nil_append, List.length_cons, List.length_nil, Option.map_some, Option.bind_some, Nat.reduceAdd, Nat.zero_add, Nat.add_zero, Nat.add_sub_cancel_left, Int.toNat_natCast, reps, List.all_cons, List.all_nil, C.flat, List.append_eq, Bool.not_true, Bool.and_true, Bool.or_false, Bool.or_self, Bool.not_false, List.append_nil, Bool.and_self, ↓trG_rk]) <;> rfl) (hv : v.rk σ N = v' := by (try simp only [givesF, setF, updF, Fam.zeroth, Fam.rk, Ck.rk, C.rk, E.rk, T.rk, key, List.map_cons, List.map_nil, List.cons_append, List.nil_append, List.length_cons, List.length_nil, Option.map_some, Option.bind_some, Nat.reduceAdd, Nat.zero_add, Nat.add_zero, Nat.add_sub_cancel_left, Int.toNat_natCast, reps, List.all_cons, List.all_nil, C.flat, List.append_eq, Bool.not_true, Bool.and_true, Bool.or_false, Bool.or_self, Bool.not_false, List.append_nil, Bool.and_self, ↓trG_rk]) <;> rfl) : RetG σ H h' v K := ret_mk3 hN h hv hk
theorem cH42zcX1 {P : Program} {F : Nat} {args : List T} {H : List Fam} {K : T → List Fam → Prop} {σ : List Sg} {nl : List Fam} {args0 : List T} {h0 : List Fam} {Q : T → List Fam → Prop} {H2 H1 : List Fam} {N n : Nat} (hc : Ctr P F args0 h0 Q) (hk : ∀ v h', Q v h' → capsP h' → RetG σ H2 h' v K) (hap : apart σ = true := by rfl) (hnl : nl.all nilB = true := by rfl) (h1 : H ++ nl = H1 := by first | exact List.append_nil _ | ((try simp only [List.cons_append, List.nil_append]) <;> rfl)) (hN : H1.length = N := by (try simp only [↓List.length_cons, ↓List.length_nil, Nat.reduceAdd]) <;> rfl) (hn : H.length = n := by (try simp only [↓List.length_cons, ↓List.length_nil, Nat.reduceAdd]) <;> rfl) (hH : givesF σ N H1 σ h0 = some H2 := by (try simp (maxSteps := 1000000) only [givesF, setF, updF, Fam.zeroth, Fam.rk, Ck.rk, C.rk, E.rk, T.rk, key, List.map_cons, List.map_nil, List.cons_append, List.nil_append, List.length_cons, List.length_nil, Option.map_some, Option.bind_some, Nat.reduceAdd, Nat.zero_add, Nat.add_zero, Nat.add_sub_cancel_left, Int.toNat_natCast, reps, List.all_cons, List.all_nil, C.flat, List.append_eq, Bool.not_true, Bool.and_true, Bool.or_false, Bool.or_self, Bool.not_false, List.append_nil, Bool.and_self, ↓trG_rk]) <;> rfl) (hle : leS n H1 σ N σ h0 (belsK N (h0.map (Fam.rk σ N)) (argsK n args (args0.map (T.rk σ N)) True)) := by repeat' first | refine And.intro ?_ ?_ | exact xeC | fail) : CallK P F args H K := CallK.mk3 hc hap hnl h1 hN hn hH hle hk
set_option maxRecDepth 10000 in
set_option maxHeartbeats 16000000 in
theorem centries (s : ByteArray) (ix : Nat) (hs : s.size ≤ 100000000) (hix : ix ≤ 1000000000) :
    Ctr Tryz.prog 83 [.c (.s s), .c (.i .i64 (ix : Nat))] []
      fun v h => ∃ X c okb, (okb = true ↔ (ixL s).2 = true ∧ ordE (ixL s).1 ix) ∧ (okb = true → ers X = (ixL s).1) ∧ v = .t [.c (.sl 0 0 4 0 X.length c), .c (.b okb)] ∧ h = [.one (erR 1 X c), .many (trG X)] := by
  refine Ctr.mk' tbv mixed Tryz.func83 rfl rfl rfl (fun _ _ => by kernel_rfl) (by kernel_rfl) (by rfl) (by rfl) (by (repeat' first | refine And.intro ?_ ?_ | exact xeC | fail) <;> exact xmT) ?_
  repeat' (first | (fail_if_success (with_reducible refine xstp ?_)); first | (with_reducible intro hc; (try simp only [capsP, and_true] at hc); (try exact xfC)) | ((fail_if_success (with_reducible first | refine xgon ?_ | intro _)); (conv => whnf); (fail_if_success (fail_if_success (with_reducible first | refine xstp ?_ | refine xgon ?_ | intro _)))))
  refine cH42zcX1 (σ := []) (nl := []) (cRAt s 0 0 (Nat.zero_le _) hs) ?_
  rintro v h' ⟨rfl, rfl⟩ hcaps
  have hm0 := rdAt_mono (s := s) (a := 0) (e := 0) (Nat.zero_le _)
  have hk2 := kind2_ok (s := s)
  have hkn := kind2_no (s := s)
  generalize hq0 : rdAt s 0 0 = q0 at *
  refine rH42zcX0 ?_
  repeat' (first | (fail_if_success (with_reducible refine xstp ?_)); first | ((fail_if_success (with_reducible first | refine xgon ?_ | intro _)); (conv => whnf); (fail_if_success (fail_if_success (with_reducible first | refine xstp ?_ | refine xgon ?_ | intro _)))))
  refine cH42zcX1 (σ := []) (nl := []) (cRAt s q0.2.1 q0.2.2 hm0.2 hs) ?_
  rintro v h' ⟨rfl, rfl⟩ hcaps
  have hm1 := rdAt_mono (e := q0.2.2) hm0.2
  have hn0 := rdAt_le s q0.2.1 q0.2.2
  generalize hr0 : rdAt s q0.2.1 q0.2.2 = r0 at *
  obtain ⟨k0, a0, e0⟩ := r0
  simp only at hm1 hn0
  refine rH42zcX0 ?_
  repeat' (first | (fail_if_success (with_reducible refine xstp ?_)); first | ((fail_if_success (with_reducible first | refine xgon ?_ | intro _)); (conv => whnf); (fail_if_success (fail_if_success (with_reducible first | refine xstp ?_ | refine xgon ?_ | intro _)))))
  refine LoopK.mk' {p : Nat × Nat × Nat × List Er × Bool × Nat // p.1 ≤ k0 ∧ EnI s k0 a0 e0 p.1 p.2.1 p.2.2.1 (ers p.2.2.2.1) ∧ p.2.2.2.1.length + p.1 = k0 ∧ (p.2.2.2.2.1 = true ↔ q0.1 = 2 ∧ okEs (ers p.2.2.2.1) ix)}
    (fun ⟨(k, a, e, X, ok, c), _⟩ => ⟨[(1, .c (.i .i64 (ix : Nat))), (6, .c (.p 0 0 0)), (8, .c (.i .i64 (k0 : Nat))), (9, .c (.b ok)), (10, .c (.sl 1 0 4 0 X.length c)), (11, .c (.i .i64 (X.length : Nat)))],
      [.one (.cells true (rv s a e)), .one (erR 2 X c), .many (trG X)]⟩) (fun p => p.1.1)
    ⟨⟨(k0, a0, e0, [], decide (((q0.1 : Nat) : Int) = 2), 0), Nat.le_refl _, ⟨hm1.2, Nat.zero_le _, rfl⟩, by simp, by constructor; intro h; have := of_decide_eq_true h; exact ⟨by omega, fun i hi => absurd hi (Nat.not_lt_zero i)⟩; intro h; exact decide_eq_true (by omega)⟩, [0, 99, 98], ?_⟩ ?_
  · (repeat' first | refine And.intro ?_ ?_ | exact xeC | fail)
    all_goals first
      | exact xmT
      | (intro i hi; exact absurd hi (Nat.not_lt_zero i))
      | exact fun x => if_neg (Nat.not_lt_zero x)
      | skip
  rintro ⟨⟨k, a, e, X, ok, c⟩, hk, hI, hXk, hok⟩
  simp only at hk hI hXk hok
  have hIl := hI.le
  have hIn := hI.len
  have hel : (ers X).length = X.length := List.length_map _
  rw [hel] at hIn
  repeat' (first | (fail_if_success (with_reducible refine xstp ?_)); first | ((with_reducible refine And.intro (fun (hb : _ = true) => ?_) (fun (hb : _ = false) => ?_)) <;> replace hb := xnC hb <;> (try first | exact xfC | exact bff hb (by assumption) | exact bff (by assumption) hb)) | (with_reducible intro hc; (try simp only [capsP, and_true] at hc); (try exact xfC)) | ((fail_if_success (with_reducible first | refine xgon ?_ | intro _)); (conv => whnf); (fail_if_success (fail_if_success (with_reducible first | refine xstp ?_ | refine xgon ?_ | intro _)))))
  · obtain ⟨k2, rfl⟩ : ∃ k2, k = k2 + 1 := ⟨k - 1, by omega⟩
    obtain rfl : e = 0 := by omega
    rw [if_pos rfl] at hIn
    have hst := hI.step
    have htp := tl_pos (s := s) (a := a) (e := 0)
    refine cH42zcX1 (σ := []) (nl := []) (centry s a hIl hs) ?_ (hle := by (repeat' first | refine And.intro ?_ ?_ | exact xeC | fail) <;> exact xmT)
    rintro v h' ⟨c3, rfl, rfl⟩ hcaps
    generalize hfb : decide (1 ≤ (sm4 s a 0).1 ∧ (rdEn s a 0).fi ≤ (rdEn s a 0).la ∧ okTs (rdEn s a 0).T) = fb at *
    have hfb2 : fb = true ↔ 1 ≤ (rdEn s a 0).T.length ∧ (rdEn s a 0).fi ≤ (rdEn s a 0).la ∧ okTs (rdEn s a 0).T := by rw [← hfb, decide_eq_true_iff, htp]
    clear hfb htp
    generalize rdEn s a 0 = y at *
    generalize enT s a 0 = et at *
    have hpv : (ers X).getD (X.length - 1) default = (X.getD ((X.length : Int) - 1).toNat default).e := by rw [getErs, show ((X.length : Int) - 1).toNat = X.length - 1 by omega]
    have hsn := okEs_snoc (L := ers X) (y := y) (ix := ix)
    rw [hel, hpv] at hsn
    have hbad := fun (h : ¬ (((X.length = 0 → y.off = 5) ∧ (0 < X.length → (X.getD ((X.length : Int) - 1).toNat default).e.off < y.off) ∧ y.off < ix) ∧ ((0 < X.length → (X.getD ((X.length : Int) - 1).toNat default).e.la ≤ y.fi) ∧ y.fi ≤ y.la ∧ 1 ≤ y.T.length) ∧ okTs y.T)) => (⟨fun q => (by cases q), fun q => absurd (hsn.1 q.2).2 h⟩ : false = true ↔ q0.1 = 2 ∧ okEs (ers X ++ [y]) ix)
    have hgood := fun (h : ((X.length = 0 → y.off = 5) ∧ (0 < X.length → (X.getD ((X.length : Int) - 1).toNat default).e.off < y.off) ∧ y.off < ix) ∧ ((0 < X.length → (X.getD ((X.length : Int) - 1).toNat default).e.la ≤ y.fi) ∧ y.fi ≤ y.la ∧ 1 ≤ y.T.length) ∧ okTs y.T) => hok.trans (⟨fun q => ⟨q.1, hsn.2 ⟨q.2, h⟩⟩, fun q => ⟨q.1, (hsn.1 q.2).1⟩⟩ : q0.1 = 2 ∧ okEs (ers X) ix ↔ q0.1 = 2 ∧ okEs (ers X ++ [y]) ix)
    refine rH42zcX0 ?_
    repeat' (first | (fail_if_success (with_reducible refine xstp ?_)); first | ((with_reducible refine And.intro (fun (hb : _ = true) => ?_) (fun (hb : _ = false) => ?_)) <;> replace hb := xnC hb <;> (try first | exact xfC | exact bff hb (by assumption) | exact bff (by assumption) hb)) | ((with_reducible refine And.intro ?_ ?_); focus exact xoC) | ((with_reducible refine OvK.fit ?_ ?_); focus exact xoC) | ((with_reducible refine Or.inl ⟨?_, ?_, ?_⟩); (focus rfl); focus exact xaC) | (with_reducible intro hc; (try simp only [capsP, and_true] at hc); (try exact xfC)) | ((fail_if_success (with_reducible first | refine xgon ?_ | intro _)); (conv => whnf); (fail_if_success (fail_if_success (with_reducible first | refine xstp ?_ | refine xgon ?_ | intro _)))))
    · skip
      rename_i c4
      refine ⟨⟨(k2, et.2.1, et.2.2, X ++ [⟨y, c3⟩], false, c4), by omega, by rw [ers_snoc]; exact hst, by rw [List.length_append, List.length_singleton]; omega, by rw [ers_snoc]; exact (hbad fun q => by have := hfb2.2 ⟨q.2.1.2.2, q.2.1.2.1, q.2.2⟩; rw [hb] at this; cases this)⟩, [0, 7, .adopt 2 X.length 3], by simp only; omega, ?_⟩
      (repeat' first | refine And.intro ?_ ?_ | exact xeC | fail)
      all_goals first
        | exact xmT
        | (simp; done)
        | exact erApp (G := 3) (y := ⟨y, c3⟩) (fun i hi => by simp [key, hi]) (by simp [key]) rfl
        | exact fun x hx => ixG_leA trF hx
        | skip
      refine ixG_leAn trF ?_
      refine ⟨rfl, rfl, rfl, rfl, Nat.le_refl _, rfl, fun i hi => rfl, ?_⟩
      (repeat' first | refine And.intro ?_ ?_ | exact xeC | fail)
      all_goals first
        | exact xmT
        | (simp; done)
        | skip
    · skip
      rename_i c4
      refine ⟨⟨(k2, et.2.1, et.2.2, X ++ [⟨y, c3⟩], false, c4), by omega, by rw [ers_snoc]; exact hst, by rw [List.length_append, List.length_singleton]; omega, by rw [ers_snoc]; exact (hbad fun q => by have := q.1.2.2; omega)⟩, [0, 7, .adopt 2 X.length 3], by simp only; omega, ?_⟩
      (repeat' first | refine And.intro ?_ ?_ | exact xeC | fail)
      all_goals first
        | exact xmT
        | (simp; done)
        | exact erApp (G := 3) (y := ⟨y, c3⟩) (fun i hi => by simp [key, hi]) (by simp [key]) rfl
        | exact fun x hx => ixG_leA trF hx
        | skip
      refine ixG_leAn trF ?_
      refine ⟨rfl, rfl, rfl, rfl, Nat.le_refl _, rfl, fun i hi => rfl, ?_⟩
      (repeat' first | refine And.intro ?_ ?_ | exact xeC | fail)
      all_goals first
        | exact xmT
        | (simp; done)
        | skip
    · skip
      rename_i c4
      refine ⟨⟨(k2, et.2.1, et.2.2, X ++ [⟨y, c3⟩], false, c4), by omega, by rw [ers_snoc]; exact hst, by rw [List.length_append, List.length_singleton]; omega, by rw [ers_snoc]; exact (hbad fun q => by have := q.1.1; omega)⟩, [0, 7, .adopt 2 X.length 3], by simp only; omega, ?_⟩
      (repeat' first | refine And.intro ?_ ?_ | exact xeC | fail)
      all_goals first
        | exact xmT
        | (simp; done)
        | exact erApp (G := 3) (y := ⟨y, c3⟩) (fun i hi => by simp [key, hi]) (by simp [key]) rfl
        | exact fun x hx => ixG_leA trF hx
        | skip
      refine ixG_leAn trF ?_
      refine ⟨rfl, rfl, rfl, rfl, Nat.le_refl _, rfl, fun i hi => rfl, ?_⟩
      (repeat' first | refine And.intro ?_ ?_ | exact xeC | fail)
      all_goals first
        | exact xmT
        | (simp; done)
        | skip
    · skip
      rename_i c4
      refine ⟨⟨(k2, et.2.1, et.2.2, X ++ [⟨y, c3⟩], ok, c4), by omega, by rw [ers_snoc]; exact hst, by rw [List.length_append, List.length_singleton]; omega, by rw [ers_snoc]; exact (hgood (by obtain ⟨p6, p5, p7⟩ := hfb2.1 (by assumption); exact ⟨⟨by omega, by omega, by omega⟩, ⟨by omega, p5, p6⟩, p7⟩))⟩, [0, 7, .adopt 2 X.length 3], by simp only; omega, ?_⟩
      (repeat' first | refine And.intro ?_ ?_ | exact xeC | fail)
      all_goals first
        | exact xmT
        | (simp; done)
        | exact erApp (G := 3) (y := ⟨y, c3⟩) (fun i hi => by simp [key, hi]) (by simp [key]) rfl
        | exact fun x hx => ixG_leA trF hx
        | skip
      refine ixG_leAn trF ?_
      refine ⟨rfl, rfl, rfl, rfl, Nat.le_refl _, rfl, fun i hi => rfl, ?_⟩
      (repeat' first | refine And.intro ?_ ?_ | exact xeC | fail)
      all_goals first
        | exact xmT
        | (simp; done)
        | skip
    · skip
      rename_i c4
      refine ⟨⟨(k2, et.2.1, et.2.2, X ++ [⟨y, c3⟩], false, c4), by omega, by rw [ers_snoc]; exact hst, by rw [List.length_append, List.length_singleton]; omega, by rw [ers_snoc]; exact (hbad fun q => by have := q.1.2.1; omega)⟩, [0, 7, .adopt 2 X.length 3], by simp only; omega, ?_⟩
      (repeat' first | refine And.intro ?_ ?_ | exact xeC | fail)
      all_goals first
        | exact xmT
        | (simp; done)
        | exact erApp (G := 3) (y := ⟨y, c3⟩) (fun i hi => by simp [key, hi]) (by simp [key]) rfl
        | exact fun x hx => ixG_leA trF hx
        | skip
      refine ixG_leAn trF ?_
      refine ⟨rfl, rfl, rfl, rfl, Nat.le_refl _, rfl, fun i hi => rfl, ?_⟩
      (repeat' first | refine And.intro ?_ ?_ | exact xeC | fail)
      all_goals first
        | exact xmT
        | (simp; done)
        | skip
    · skip
      rename_i c4
      refine ⟨⟨(k2, et.2.1, et.2.2, X ++ [⟨y, c3⟩], false, c4), by omega, by rw [ers_snoc]; exact hst, by rw [List.length_append, List.length_singleton]; omega, by rw [ers_snoc]; exact (hbad fun q => by have := q.2.1.1; omega)⟩, [0, 7, .adopt 2 X.length 3], by simp only; omega, ?_⟩
      (repeat' first | refine And.intro ?_ ?_ | exact xeC | fail)
      all_goals first
        | exact xmT
        | (simp; done)
        | exact erApp (G := 3) (y := ⟨y, c3⟩) (fun i hi => by simp [key, hi]) (by simp [key]) rfl
        | exact fun x hx => ixG_leA trF hx
        | skip
      refine ixG_leAn trF ?_
      refine ⟨rfl, rfl, rfl, rfl, Nat.le_refl _, rfl, fun i hi => rfl, ?_⟩
      (repeat' first | refine And.intro ?_ ?_ | exact xeC | fail)
      all_goals first
        | exact xmT
        | (simp; done)
        | skip
    · skip
      rename_i c4
      refine ⟨⟨(k2, et.2.1, et.2.2, X ++ [⟨y, c3⟩], ok, c4), by omega, by rw [ers_snoc]; exact hst, by rw [List.length_append, List.length_singleton]; omega, by rw [ers_snoc]; exact (hgood (by obtain ⟨p6, p5, p7⟩ := hfb2.1 (by assumption); exact ⟨⟨by omega, by omega, by omega⟩, ⟨by omega, p5, p6⟩, p7⟩))⟩, [0, 7, .adopt 2 X.length 3], by simp only; omega, ?_⟩
      (repeat' first | refine And.intro ?_ ?_ | exact xeC | fail)
      all_goals first
        | exact xmT
        | (simp; done)
        | exact erApp (G := 3) (y := ⟨y, c3⟩) (fun i hi => by simp [key, hi]) (by simp [key]) rfl
        | exact fun x hx => ixG_leA trF hx
        | skip
      refine ixG_leAn trF ?_
      refine ⟨rfl, rfl, rfl, rfl, Nat.le_refl _, rfl, fun i hi => rfl, ?_⟩
      (repeat' first | refine And.intro ?_ ?_ | exact xeC | fail)
      all_goals first
        | exact xmT
        | (simp; done)
        | skip
  all_goals obtain ⟨hfa, hfl⟩ := ix_fin (ix := ix) hq0 hr0 hI hXk (by omega)
  · skip
    refine cH42zcX1 (σ := []) (nl := []) (cREnd s a e) ?_ (hle := by (repeat' first | refine And.intro ?_ ?_ | exact xeC | fail) <;> exact xmT)
    rintro v h' ⟨rfl, rfl⟩ hcaps
    refine rH42zcX0 ?_
    repeat' (first | (fail_if_success (with_reducible refine xstp ?_)); first | ((fail_if_success (with_reducible first | refine xgon ?_ | intro _)); (conv => whnf); (fail_if_success (fail_if_success (with_reducible first | refine xstp ?_ | refine xgon ?_ | intro _)))))
    have hok2 := hok.1 (by assumption)
    have h5 : k0 = 0 → ix = 5 := by omega
    refine FinK.mk ⟨[1, 2], _, _, ⟨X, c, decide (((endV s a e : Nat) : Int) = 0), ⟨fun h => hfa.2 ⟨hok2.1, by have := of_decide_eq_true h; omega, hok2.2, h5⟩, fun h => decide_eq_true (by have := (hfa.1 h).2.1; omega)⟩, fun _ => (hfl hok2.1).symm, rfl, rfl⟩, ?_⟩
    (repeat' first | refine And.intro ?_ ?_ | exact xeC | fail)
    all_goals exact xmT
  · skip
    refine FinK.mk ⟨[1, 2], _, _, ⟨X, c, false, ⟨fun h => (by cases h), fun h => absurd (hfa.1 h) (fun q => by have := hok.2 ⟨q.1, q.2.2.1⟩; rw [hb] at this; cases this)⟩, fun h => (by cases h), rfl, rfl⟩, ?_⟩
    (repeat' first | refine And.intro ?_ ?_ | exact xeC | fail)
    all_goals exact xmT
  · skip
    refine FinK.mk ⟨[1, 2], _, _, ⟨X, c, false, ⟨fun h => (by cases h), fun h => absurd (hfa.1 h) (fun q => by have := q.2.2.2; omega)⟩, fun h => (by cases h), rfl, rfl⟩, ?_⟩
    (repeat' first | refine And.intro ?_ ?_ | exact xeC | fail)
    all_goals exact xmT
  · skip
    refine cH42zcX1 (σ := []) (nl := []) (cREnd s a e) ?_ (hle := by (repeat' first | refine And.intro ?_ ?_ | exact xeC | fail) <;> exact xmT)
    rintro v h' ⟨rfl, rfl⟩ hcaps
    refine rH42zcX0 ?_
    repeat' (first | (fail_if_success (with_reducible refine xstp ?_)); first | ((fail_if_success (with_reducible first | refine xgon ?_ | intro _)); (conv => whnf); (fail_if_success (fail_if_success (with_reducible first | refine xstp ?_ | refine xgon ?_ | intro _)))))
    have hok2 := hok.1 (by assumption)
    have h5 : k0 = 0 → ix = 5 := by omega
    refine FinK.mk ⟨[1, 2], _, _, ⟨X, c, decide (((endV s a e : Nat) : Int) = 0), ⟨fun h => hfa.2 ⟨hok2.1, by have := of_decide_eq_true h; omega, hok2.2, h5⟩, fun h => decide_eq_true (by have := (hfa.1 h).2.1; omega)⟩, fun _ => (hfl hok2.1).symm, rfl, rfl⟩, ?_⟩
    (repeat' first | refine And.intro ?_ ?_ | exact xeC | fail)
    all_goals exact xmT
  · skip
    refine FinK.mk ⟨[1, 2], _, _, ⟨X, c, false, ⟨fun h => (by cases h), fun h => absurd (hfa.1 h) (fun q => by have := hok.2 ⟨q.1, q.2.2.1⟩; rw [hb] at this; cases this)⟩, fun h => (by cases h), rfl, rfl⟩, ?_⟩
    (repeat' first | refine And.intro ?_ ?_ | exact xeC | fail)
    all_goals exact xmT
  · skip
    refine cH42zcX1 (σ := []) (nl := []) (cREnd s a e) ?_ (hle := by (repeat' first | refine And.intro ?_ ?_ | exact xeC | fail) <;> exact xmT)
    rintro v h' ⟨rfl, rfl⟩ hcaps
    refine rH42zcX0 ?_
    repeat' (first | (fail_if_success (with_reducible refine xstp ?_)); first | ((fail_if_success (with_reducible first | refine xgon ?_ | intro _)); (conv => whnf); (fail_if_success (fail_if_success (with_reducible first | refine xstp ?_ | refine xgon ?_ | intro _)))))
    have hok2 := hok.1 (by assumption)
    have h5 : k0 = 0 → ix = 5 := by omega
    refine FinK.mk ⟨[1, 2], _, _, ⟨X, c, decide (((endV s a e : Nat) : Int) = 0), ⟨fun h => hfa.2 ⟨hok2.1, by have := of_decide_eq_true h; omega, hok2.2, h5⟩, fun h => decide_eq_true (by have := (hfa.1 h).2.1; omega)⟩, fun _ => (hfl hok2.1).symm, rfl, rfl⟩, ?_⟩
    (repeat' first | refine And.intro ?_ ?_ | exact xeC | fail)
    all_goals exact xmT
  · skip
    refine FinK.mk ⟨[1, 2], _, _, ⟨X, c, false, ⟨fun h => (by cases h), fun h => absurd (hfa.1 h) (fun q => by have := hok.2 ⟨q.1, q.2.2.1⟩; rw [hb] at this; cases this)⟩, fun h => (by cases h), rfl, rfl⟩, ?_⟩
    (repeat' first | refine And.intro ?_ ?_ | exact xeC | fail)
    all_goals exact xmT
end Go.Proofs.YtenompgpjlbelaaGreatDoor


namespace Go.Proofs.YtenompgpjlbelaaGreatDoor
open Go.X
set_option linter.unusedSimpArgs false
set_option linter.unusedVariables false
open P4
open P5
abbrev rbC (b : Bg) (F n c : Nat) : Ck := .cells true [.s (mkS b.s), .i .i64 (b.ix : Nat), .sl F 0 4 0 n c]
abbrev rbH (b : Bg) (X : List Er) (c : Nat) : List Fam := [.one (rbC b 1 X.length c), .one (erR 2 X c), .many (trG X)]
set_option maxRecDepth 10000 in
theorem csame (w w2 : Bool) (l m : List Tl) (c d : Nat) (hl : l.length ≤ 1000000000) :
    Ctr Tryz.prog 125 [.c (.sl 0 0 2 0 l.length c), .c (.sl 1 0 2 0 m.length d)] [.one (tlR w l c), .one (tlR w2 m d)]
      fun v h => v = .c (.b (decide (l = m))) ∧ h = [.one (tlR w l c), .one (tlR w2 m d)] := by
  refine Ctr.mk' tbv mixed Tryz.func125 rfl rfl rfl (fun _ _ => by kernel_rfl) (by kernel_rfl) (by rfl) (by rfl) (by (repeat' first | refine And.intro ?_ ?_ | exact xeC | fail)) ?_
  repeat' (first | (fail_if_success (with_reducible refine xstp ?_)); first | ((with_reducible refine And.intro (fun (hb : _ = true) => ?_) (fun (hb : _ = false) => ?_)) <;> replace hb := xnC hb <;> (try first | exact xfC | exact bff hb (by assumption) | exact bff (by assumption) hb)) | (with_reducible intro hc; (try simp only [capsP, and_true] at hc); (try exact xfC)) | ((fail_if_success (with_reducible first | refine xgon ?_ | intro _)); (conv => whnf); (fail_if_success (fail_if_success (with_reducible first | refine xstp ?_ | refine xgon ?_ | intro _)))))
  · rw [decide_eq_false (p := l = m) (fun e => hb (by rw [e]))]
    refine FinK.mk ⟨[0, 1], _, _, ⟨rfl, rfl⟩, ?_⟩
    (repeat' first | refine And.intro ?_ ?_ | exact xeC | fail)
  have hlm : l.length = m.length := by omega
  refine LoopK.mk' {i : Nat // i ≤ l.length ∧ l.take i = m.take i}
    (fun ⟨i, _⟩ => ⟨[(0, .c (.sl 0 0 2 0 l.length c)), (1, .c (.sl 1 0 2 0 m.length d)), (5, .c (.i .i64 (i : Nat)))], [.one (tlR w l c), .one (tlR w2 m d)]⟩) (fun p => l.length - p.1)
    ⟨⟨0, Nat.zero_le _, rfl⟩, [0, 1], ?_⟩ ?_
  · (repeat' first | refine And.intro ?_ ?_ | exact xeC | fail)
  rintro ⟨i, hi, hq⟩
  have e2 : 0 + ((i : Nat) : Int).toNat = i := by omega
  repeat' (first | (fail_if_success (with_reducible refine xstp ?_)); first | ((with_reducible refine And.intro (fun (hb : _ = true) => ?_) (fun (hb : _ = false) => ?_)) <;> replace hb := xnC hb <;> (try first | exact xfC | exact bff hb (by assumption) | exact bff (by assumption) hb)) | ((with_reducible refine And.intro ?_ ?_); focus exact xoC) | ((with_reducible refine OvK.fit ?_ ?_); focus exact xoC) | (with_reducible intro hc; (try simp only [capsP, and_true] at hc); (try exact xfC)) | ((fail_if_success (with_reducible first | refine xgon ?_ | intro _)); (conv => whnf); (fail_if_success (fail_if_success (with_reducible first | refine xstp ?_ | refine xgon ?_ | intro _)))))
  · have hne : l ≠ m := fun e => by
      rw [e] at hb
      simp at hb
    rw [decide_eq_false (p := l = m) hne]
    refine FinK.mk ⟨[0, 1], _, _, ⟨rfl, rfl⟩, ?_⟩
    (repeat' first | refine And.intro ?_ ?_ | exact xeC | fail)
  · have hg : l.getD i default = m.getD i default := by
      obtain ⟨h1, h2⟩ := hb
      have h1 := mkS_inj.1 h1
      generalize l.getD i default = x at *
      generalize m.getD i default = y at *
      cases x
      cases y
      simp only at h1 h2
      rw [h1, show _ = _ from Int.ofNat_inj.1 h2]
    refine ⟨⟨i + 1, by omega, take_eq hq (by omega) (by omega) hg⟩, [0, 1], by simp only; omega, ?_⟩
    (repeat' first | refine And.intro ?_ ?_ | exact xeC | fail)
  · obtain rfl : i = l.length := by omega
    rw [decide_eq_true (p := l = m) (by rw [List.take_length, hlm, List.take_length] at hq; exact hq)]
    refine FinK.mk ⟨[0, 1], _, _, ⟨rfl, rfl⟩, ?_⟩
    (repeat' first | refine And.intro ?_ ?_ | exact xeC | fail)
set_option maxRecDepth 10000 in
theorem chas (w : Bool) (e : En) (c : Nat) (t : List UInt8) (hl : e.T.length ≤ 1000000000) :
    Ctr Tryz.prog 106 [.a [.i .i64 (e.off : Nat), .i .i64 (e.fi : Nat), .i .i64 (e.la : Nat), .sl 0 0 2 0 e.T.length c], .c (.s (mkS t))] [.one (tlR w e.T c)]
      fun v h => v = .c (.b (decide (hasT e t))) ∧ h = [.one (tlR w e.T c)] := by
  have hm : t ∈ e.T.map Prod.fst ↔ ∃ k, k < e.T.length ∧ (e.T.getD k default).1 = t := by
    constructor
    · intro h
      obtain ⟨p, hp, rfl⟩ := List.mem_map.1 h
      obtain ⟨k, hk, e2⟩ := List.mem_iff_getElem.1 hp
      exact ⟨k, hk, by rw [getD_at hk, e2]⟩
    · rintro ⟨k, hk, rfl⟩
      exact List.mem_map.2 ⟨_, by rw [getD_at hk]; exact List.getElem_mem _, rfl⟩
  refine Ctr.mk' tbv mixed Tryz.func106 rfl rfl rfl (fun _ _ => by kernel_rfl) (by kernel_rfl) (by rfl) (by rfl) (by (repeat' first | refine And.intro ?_ ?_ | exact xeC | fail)) ?_
  repeat' (first | (fail_if_success (with_reducible refine xstp ?_)); first | (with_reducible intro hc; (try simp only [capsP, and_true] at hc); (try exact xfC)) | ((fail_if_success (with_reducible first | refine xgon ?_ | intro _)); (conv => whnf); (fail_if_success (fail_if_success (with_reducible first | refine xstp ?_ | refine xgon ?_ | intro _)))))
  refine LoopK.mk' {i : Nat // i ≤ e.T.length ∧ ∀ k, k < i → (e.T.getD k default).1 ≠ t}
    (fun ⟨i, _⟩ => ⟨[(1, .c (.s (mkS t))), (2, .c (.p 1 0 0)), (5, .c (.i .i64 (i : Nat)))], [.one (tlR w e.T c), .one (.cells true [.i .i64 (e.off : Nat), .i .i64 (e.fi : Nat), .i .i64 (e.la : Nat), .sl 0 0 2 0 e.T.length c])]⟩) (fun p => e.T.length - p.1)
    ⟨⟨0, Nat.zero_le _, fun k hk => absurd hk (Nat.not_lt_zero k)⟩, [0, 1], ?_⟩ ?_
  · (repeat' first | refine And.intro ?_ ?_ | exact xeC | fail)
  rintro ⟨i, hi, hq⟩
  have e2 : 0 + ((i : Nat) : Int).toNat = i := by omega
  repeat' (first | (fail_if_success (with_reducible refine xstp ?_)); first | ((with_reducible refine And.intro (fun (hb : _ = true) => ?_) (fun (hb : _ = false) => ?_)) <;> replace hb := xnC hb <;> (try first | exact xfC | exact bff hb (by assumption) | exact bff (by assumption) hb)) | ((with_reducible refine And.intro ?_ ?_); focus exact xoC) | ((with_reducible refine OvK.fit ?_ ?_); focus exact xoC) | (with_reducible intro hc; (try simp only [capsP, and_true] at hc); (try exact xfC)) | ((fail_if_success (with_reducible first | refine xgon ?_ | intro _)); (conv => whnf); (fail_if_success (fail_if_success (with_reducible first | refine xstp ?_ | refine xgon ?_ | intro _)))))
  · rw [decide_eq_true (p := hasT e t) (.inr (hm.2 ⟨i, by omega, mkS_inj.1 hb⟩))]
    refine FinK.mk ⟨[0], _, _, ⟨rfl, rfl⟩, ?_⟩
    (repeat' first | refine And.intro ?_ ?_ | exact xeC | fail)
  · refine ⟨⟨i + 1, by omega, fun k hk => ?_⟩, [0, 1], by simp only; omega, ?_⟩
    · rcases Nat.lt_or_ge k i with q | q
      · exact hq k q
      · obtain rfl : k = i := by omega
        exact fun q => hb (by rw [q])
    · (repeat' first | refine And.intro ?_ ?_ | exact xeC | fail)
  · obtain rfl : i = e.T.length := by omega
    have hd : decide (mkS t = { data := #[] }) = decide (hasT e t) := by
      by_cases q : t = []
      · rw [decide_eq_true (mkS_nil.2 q), decide_eq_true (p := hasT e t) (.inl q)]
      · rw [decide_eq_false (fun h => q (mkS_nil.1 h)), decide_eq_false (p := hasT e t) (fun h => h.elim q (fun h => by obtain ⟨k, hk, he⟩ := hm.1 h; exact hq k hk he))]
    rw [← hd]
    refine FinK.mk ⟨[0], _, _, ⟨rfl, rfl⟩, ?_⟩
    (repeat' first | refine And.intro ?_ ?_ | exact xeC | fail)
end Go.Proofs.YtenompgpjlbelaaGreatDoor


namespace Go.Proofs.YtenompgpjlbelaaGreatDoor
open Go.X
set_option linter.unusedSimpArgs false
set_option linter.unusedVariables false
open P4
open P5
theorem encEr_rk0 (N : Nat) (X : List Er) (i : Nat) : List.map (C.rk [] N) (encEr 1 X i) = encEr (N + 1) X i := rfl
theorem rH42zcY0 {σ : List Sg} {H h' : List Fam} {v : T} {K : T → List Fam → Prop} {H' : List Fam} {v' : T} {N : Nat} (hk : K v' H') (hN : H.length = N := by (try simp only [↓List.length_cons, ↓List.length_nil, Nat.reduceAdd]) <;> rfl) (h : givesF σ N H σ h' = some H' := by (try simp (maxSteps := 1000000) only [givesF, setF, updF, Fam.zeroth, Fam.rk, Ck.rk, C.rk, E.rk, T.rk, key, List.map_cons, List.map_nil, List.cons_append, List.nil_append, List.length_cons, List.length_nil, Option.map_some, Option.bind_some, Nat.reduceAdd, Nat.zero_add, Nat.add_zero, Nat.add_sub_cancel_left, Int.toNat_natCast, reps, List.all_cons, List.all_nil, C.flat, List.append_eq, Bool.not_true, Bool.and_true, Bool.or_false, Bool.or_self, Bool.not_false, List.append_nil, Bool.and_self, ↓trG_rk]) <;> rfl) (hv : v.rk σ N = v' := by (try simp only [givesF, setF, updF, Fam.zeroth, Fam.rk, Ck.rk, C.rk, E.rk, T.rk, key, List.map_cons, List.map_nil, List.cons_append, List.nil_append, List.length_cons, List.length_nil, Option.map_some, Option.bind_some, Nat.reduceAdd, Nat.zero_add, Nat.add_zero, Nat.add_sub_cancel_left, Int.toNat_natCast, reps, List.all_cons, List.all_nil, C.flat, List.append_eq, Bool.not_true, Bool.and_true, Bool.or_false, Bool.or_self, Bool.not_false, List.append_nil, Bool.and_self, ↓trG_rk]) <;> rfl) : RetG σ H h' v K := ret_mk3 hN h hv hk
theorem rH42zcY1 {σ : List Sg} {H h' : List Fam} {v : T} {K : T → List Fam → Prop} {H' : List Fam} {v' : T} {N : Nat} (hk : K v' H') (hN : H.length = N := by (try simp only [↓List.length_cons, ↓List.length_nil, Nat.reduceAdd]) <;> rfl) (h : givesF σ N H σ h' = some H' := by (try simp (maxSteps := 1000000) only [givesF, setF, updF, Fam.zeroth, Fam.rk, Ck.rk, C.rk, E.rk, T.rk, key, List.map_cons, List.map_nil, List.cons_append, List.nil_append, List.length_cons, List.length_nil, Option.map_some, Option.bind_some, Nat.reduceAdd, Nat.zero_add, Nat.add_zero, Nat.add_sub_cancel_left, Int.toNat_natCast, reps, List.all_cons, List.all_nil, C.flat, List.append_eq, Bool.not_true, Bool.and_true, Bool.or_false, Bool.or_self, Bool.not_false, List.append_nil, Bool.and_self, ↓trG_rk, encEr_rk0]) <;> rfl) (hv : v.rk σ N = v' := by (try simp only [givesF, setF, updF, Fam.zeroth, Fam.rk, Ck.rk, C.rk, E.rk, T.rk, key, List.map_cons, List.map_nil, List.cons_append, List.nil_append, List.length_cons, List.length_nil, Option.map_some, Option.bind_some, Nat.reduceAdd, Nat.zero_add, Nat.add_zero, Nat.add_sub_cancel_left, Int.toNat_natCast, reps, List.all_cons, List.all_nil, C.flat, List.append_eq, Bool.not_true, Bool.and_true, Bool.or_false, Bool.or_self, Bool.not_false, List.append_nil, Bool.and_self, ↓trG_rk, encEr_rk0]) <;> rfl) : RetG σ H h' v K := ret_mk3 hN h hv hk
theorem cH42zcY2 {P : Program} {F : Nat} {args : List T} {H : List Fam} {K : T → List Fam → Prop} {σ : List Sg} {nl : List Fam} {args0 : List T} {h0 : List Fam} {Q : T → List Fam → Prop} {H2 H1 : List Fam} {N n : Nat} (hc : Ctr P F args0 h0 Q) (hk : ∀ v h', Q v h' → capsP h' → RetG σ H2 h' v K) (hap : apart σ = true := by rfl) (hnl : nl.all nilB = true := by rfl) (h1 : H ++ nl = H1 := by first | exact List.append_nil _ | ((try simp only [List.cons_append, List.nil_append]) <;> rfl)) (hN : H1.length = N := by (try simp only [↓List.length_cons, ↓List.length_nil, Nat.reduceAdd]) <;> rfl) (hn : H.length = n := by (try simp only [↓List.length_cons, ↓List.length_nil, Nat.reduceAdd]) <;> rfl) (hH : givesF σ N H1 σ h0 = some H2 := by (try simp (maxSteps := 1000000) only [givesF, setF, updF, Fam.zeroth, Fam.rk, Ck.rk, C.rk, E.rk, T.rk, key, List.map_cons, List.map_nil, List.cons_append, List.nil_append, List.length_cons, List.length_nil, Option.map_some, Option.bind_some, Nat.reduceAdd, Nat.zero_add, Nat.add_zero, Nat.add_sub_cancel_left, Int.toNat_natCast, reps, List.all_cons, List.all_nil, C.flat, List.append_eq, Bool.not_true, Bool.and_true, Bool.or_false, Bool.or_self, Bool.not_false, List.append_nil, Bool.and_self, ↓trG_rk]) <;> rfl) (hle : leS n H1 σ N σ h0 (belsK N (h0.map (Fam.rk σ N)) (argsK n args (args0.map (T.rk σ N)) True)) := by repeat' first | refine And.intro ?_ ?_ | exact xeC | fail) : CallK P F args H K := CallK.mk3 hc hap hnl h1 hN hn hH hle hk
set_option maxRecDepth 10000 in
set_option maxHeartbeats 8000000 in
theorem cOpenRef (l : List UInt8) (hl : l.length ≤ 400000) :
    Ctr Tryz.prog 60 [.c (.s (mkS l))] []
      fun v h => (bgE l ≠ 0 ∧ v = .t [.c .nilp, .c (.i .i64 (bgE l : Nat))] ∧ h = []) ∨ (bgE l = 0 ∧ ∃ X c, ers X = (bgO l).L ∧ v = .t [.c (.p 0 0 0), .c (.i .i64 0)] ∧ h = rbH (bgO l) X c) := by
  have hz : (mkS l).size = l.length := rfl
  have hm : ({ data := #[82, 66, 65, 71, 49] } : ByteArray) = mkS magic := rfl
  have t1 : (mkS l).extract 0 (Int.toNat 5) = mkS (l.take 5) := by rw [mkS_ext]; rfl
  refine Ctr.mk' tbv mixed Tryz.func60 rfl rfl rfl (fun _ _ => by kernel_rfl) (by kernel_rfl) (by rfl) (by rfl) (by (repeat' first | refine And.intro ?_ ?_ | exact xeC | fail) <;> exact xmT) ?_
  have t2 : (mkS l).extract (((mkS l).size : Int) - 13 + 8).toNat (mkS l).size = mkS (l.drop (l.length - 5)) := by
    rw [mkS_ext, hz, List.take_length]
    rcases Nat.lt_or_ge l.length 5 with q | q
    · rw [show ((l.length : Int) - 13 + 8).toNat = l.length - 5 by omega]
    · rw [show ((l.length : Int) - 13 + 8).toNat = l.length - 5 by omega]
  have t3 : 18 ≤ l.length → (mkS l).extract (((mkS l).size : Int) - 13).toNat (((mkS l).size : Int) - 13 + 8).toNat = mkS ((l.drop (l.length - 13)).take 8) := fun h => by
    rw [mkS_ext, hz, show ((l.length : Int) - 13 + 8).toNat = (l.length - 13) + 8 by omega, show ((l.length : Int) - 13).toNat = l.length - 13 by omega, List.drop_take, Nat.add_sub_cancel_left]
  repeat' (first | (fail_if_success (with_reducible refine xstp ?_)); first | ((with_reducible refine And.intro (fun (hb : _ = true) => ?_) (fun (hb : _ = false) => ?_)) <;> replace hb := xnC hb <;> (try first | exact xfC | exact bff hb (by assumption) | exact bff (by assumption) hb)) | ((with_reducible refine And.intro ?_ ?_); focus exact xoC) | ((with_reducible refine OvK.fit ?_ ?_); focus exact xoC) | (with_reducible intro hc; (try simp only [capsP, and_true] at hc); (try exact xfC)) | ((fail_if_success (with_reducible first | refine xgon ?_ | intro _)); (conv => whnf); (fail_if_success (fail_if_success (with_reducible first | refine xstp ?_ | refine xgon ?_ | intro _)))))
  · skip
    have hE : bgE l = 1 := if_pos (by omega)
    refine FinK.mk ⟨[], _, _, .inl ⟨by rw [hE]; decide, by rw [hE], rfl⟩, ?_⟩
    (repeat' first | refine And.intro ?_ ?_ | exact xeC | fail)
  rw [t3 (by omega)]
  have h8 : ((l.drop (l.length - 13)).take 8).length = 8 := by rw [List.length_take, List.length_drop]; omega
  have hA : bgA l = le8 ((l.drop (l.length - 13)).take 8) := rfl
  refine cH42zcY2 (σ := []) (nl := []) (coffset ((l.drop (l.length - 13)).take 8) h8) ?_
  rintro v h' ⟨⟨z, rfl, hzz⟩, rfl⟩ hcaps
  rw [← hA] at hzz
  refine rH42zcY0 ?_
  repeat' (first | (fail_if_success (with_reducible refine xstp ?_)); first | ((with_reducible refine And.intro (fun (hb : _ = true) => ?_) (fun (hb : _ = false) => ?_)) <;> replace hb := xnC hb <;> (try first | exact xfC | exact bff hb (by assumption) | exact bff (by assumption) hb)) | ((with_reducible refine And.intro ?_ ?_); focus exact xoC) | ((with_reducible refine OvK.fit ?_ ?_); focus exact xoC) | ((fail_if_success (with_reducible first | refine xgon ?_ | intro _)); (conv => whnf); (fail_if_success (fail_if_success (with_reducible first | refine xstp ?_ | refine xgon ?_ | intro _)))))
  · rw [t1, hm, mkS_inj] at hb
    have hE : bgE l = 2 := (by unfold bgE; rw [if_neg (by omega), if_pos (fun q => hb q.1)])
    refine FinK.mk ⟨[], _, _, .inl ⟨by rw [hE]; decide, by rw [hE], rfl⟩, ?_⟩
    (repeat' first | refine And.intro ?_ ?_ | exact xeC | fail)
  · rw [t2, hm, mkS_inj] at hb
    have hE : bgE l = 2 := (by unfold bgE; rw [if_neg (by omega), if_pos (fun q => hb q.2.1)])
    refine FinK.mk ⟨[], _, _, .inl ⟨by rw [hE]; decide, by rw [hE], rfl⟩, ?_⟩
    (repeat' first | refine And.intro ?_ ?_ | exact xeC | fail)
  · skip
    have hE : bgE l = 2 := (by unfold bgE; rw [if_neg (by omega), if_pos (fun q => by have := q.2.2.1; have := q.2.2.2; omega)])
    refine FinK.mk ⟨[], _, _, .inl ⟨by rw [hE]; decide, by rw [hE], rfl⟩, ?_⟩
    (repeat' first | refine And.intro ?_ ?_ | exact xeC | fail)
  · skip
    have hE : bgE l = 2 := (by unfold bgE; rw [if_neg (by omega), if_pos (fun q => by have := q.2.2.2; omega)])
    refine FinK.mk ⟨[], _, _, .inl ⟨by rw [hE]; decide, by rw [hE], rfl⟩, ?_⟩
    (repeat' first | refine And.intro ?_ ?_ | exact xeC | fail)
  have hh2 : l.drop (l.length - 5) = magic := by rw [← mkS_inj, ← hm, ← t2]; assumption
  have hh1 : l.take 5 = magic := by rw [← mkS_inj, ← hm, ← t1]; assumption
  obtain rfl : z = (bgA l : Nat) := by omega
  have h5 : 5 ≤ bgA l := by omega
  have h13 : bgA l ≤ l.length - 13 := by omega
  have hsl : (mkS l).extract (((bgA l : Nat) : Int)).toNat (((mkS l).size : Int) - 13).toNat = mkS ((l.take (l.length - 13)).drop (bgA l)) := by rw [mkS_ext, hz, show ((l.length : Int) - 13).toNat = l.length - 13 by omega, Int.toNat_natCast]
  rw [hsl]
  have hB : ((l.take (l.length - 13)).drop (bgA l)).length ≤ 400000 := by rw [List.length_drop, List.length_take]; omega
  refine cH42zcY2 (σ := []) (nl := []) (cexaR ((l.take (l.length - 13)).drop (bgA l)) (by omega)) ?_
  rintro v h' ⟨rfl, rfl⟩ hcaps
  refine rH42zcY0 ?_
  have hxl := exaL_len ((l.take (l.length - 13)).drop (bgA l))
  have hX : exaL ((l.take (l.length - 13)).drop (bgA l)) = bgX l := rfl
  rw [hX] at hxl ⊢
  have hE1 : bgE l = if (bgX l).2 ≠ 0 then (bgX l).2 else if (ixL (mkS (bgX l).1)).2 = true ∧ ordE (ixL (mkS (bgX l).1)).1 (bgA l) then 0 else 2 := by
    unfold bgE
    rw [if_neg (by omega), if_neg (fun q => q ⟨hh1, hh2, h5, h13⟩)]
  repeat' (first | (fail_if_success (with_reducible refine xstp ?_)); first | ((with_reducible refine And.intro (fun (hb : _ = true) => ?_) (fun (hb : _ = false) => ?_)) <;> replace hb := xnC hb <;> (try first | exact xfC | exact bff hb (by assumption) | exact bff (by assumption) hb)) | ((fail_if_success (with_reducible first | refine xgon ?_ | intro _)); (conv => whnf); (fail_if_success (fail_if_success (with_reducible first | refine xstp ?_ | refine xgon ?_ | intro _)))))
  · rw [if_pos (by omega)] at hE1
    rw [hE1]
    refine FinK.mk ⟨[], _, _, .inl ⟨by omega, rfl, rfl⟩, ?_⟩
    (repeat' first | refine And.intro ?_ ?_ | exact xeC | fail)
  rw [if_neg (by omega)] at hE1
  have hzx : (mkS (bgX l).1).size = (bgX l).1.length := rfl
  refine cH42zcY2 (σ := []) (nl := []) (centries (mkS (bgX l).1) (bgA l) (by omega) (by omega)) ?_
  rintro v h' ⟨X, c, okb, hk1, hk3, rfl, rfl⟩ hcaps
  have hO := bgO_L l
  have hO1 : (bgO l).s = l := by simp only [bgO]
  have hO2 : (bgO l).ix = bgA l := by simp only [bgO]
  generalize ixL (mkS (bgX l).1) = r at *
  refine rH42zcY1 ?_
  repeat' (first | (fail_if_success (with_reducible refine xstp ?_)); first | ((with_reducible refine And.intro (fun (hb : _ = true) => ?_) (fun (hb : _ = false) => ?_)) <;> replace hb := xnC hb <;> (try first | exact xfC | exact bff hb (by assumption) | exact bff (by assumption) hb)) | ((fail_if_success (with_reducible first | refine xgon ?_ | intro _)); (conv => whnf); (fail_if_success (fail_if_success (with_reducible first | refine xstp ?_ | refine xgon ?_ | intro _)))))
  · rw [if_neg (fun q => by have := hk1.2 q; rw [hb] at this; cases this)] at hE1
    have hE : bgE l = 2 := hE1
    refine FinK.mk ⟨[], _, _, .inl ⟨by rw [hE]; decide, by rw [hE], rfl⟩, ?_⟩
    (repeat' first | refine And.intro ?_ ?_ | exact xeC | fail)
  · have hok := hk1.1 hb
    rw [if_pos hok] at hE1
    refine FinK.mk ⟨[2, 0, 1], _, _, .inr ⟨hE1, X, c, by rw [hO]; exact hk3 hb, rfl, rfl⟩, ?_⟩
    (repeat' first | refine And.intro ?_ ?_ | exact xeC | fail)
    all_goals exact xmT
end Go.Proofs.YtenompgpjlbelaaGreatDoor


namespace Go.Proofs.YtenompgpjlbelaaGreatDoor
open Go.X
set_option linter.unusedSimpArgs false
set_option linter.unusedVariables false
open P4
open P5
theorem rH42zgC0 {σ : List Sg} {H h' : List Fam} {v : T} {K : T → List Fam → Prop} {H' : List Fam} {v' : T} {N : Nat} (hk : K v' H') (hN : H.length = N := by (try simp only [↓List.length_cons, ↓List.length_nil, Nat.reduceAdd]) <;> rfl) (h : givesF σ N H σ h' = some H' := by (try simp (maxSteps := 1000000) only [givesF, setF, updF, Fam.zeroth, Fam.rk, Ck.rk, C.rk, E.rk, T.rk, key, List.map_cons, List.map_nil, List.cons_append, List.nil_append, List.length_cons, List.length_nil, Option.map_some, Option.bind_some, Nat.reduceAdd, Nat.zero_add, Nat.add_zero, Nat.add_sub_cancel_left, Int.toNat_natCast, reps, List.all_cons, List.all_nil, C.flat, List.append_eq, Bool.not_true, Bool.and_true, Bool.or_false, Bool.or_self, Bool.not_false, List.append_nil, Bool.and_self, ↓trG_rk]) <;> rfl) (hv : v.rk σ N = v' := by (try simp only [givesF, setF, updF, Fam.zeroth, Fam.rk, Ck.rk, C.rk, E.rk, T.rk, key, List.map_cons, List.map_nil, List.cons_append, List.nil_append, List.length_cons, List.length_nil, Option.map_some, Option.bind_some, Nat.reduceAdd, Nat.zero_add, Nat.add_zero, Nat.add_sub_cancel_left, Int.toNat_natCast, reps, List.all_cons, List.all_nil, C.flat, List.append_eq, Bool.not_true, Bool.and_true, Bool.or_false, Bool.or_self, Bool.not_false, List.append_nil, Bool.and_self, ↓trG_rk]) <;> rfl) : RetG σ H h' v K := ret_mk3 hN h hv hk
theorem cH42zgC1 {P : Program} {F : Nat} {args : List T} {H : List Fam} {K : T → List Fam → Prop} {σ : List Sg} {nl : List Fam} {args0 : List T} {h0 : List Fam} {Q : T → List Fam → Prop} {H2 H1 : List Fam} {N n : Nat} (hc : Ctr P F args0 h0 Q) (hk : ∀ v h', Q v h' → capsP h' → RetG σ H2 h' v K) (hap : apart σ = true := by rfl) (hnl : nl.all nilB = true := by rfl) (h1 : H ++ nl = H1 := by first | exact List.append_nil _ | ((try simp only [List.cons_append, List.nil_append]) <;> rfl)) (hN : H1.length = N := by (try simp only [↓List.length_cons, ↓List.length_nil, Nat.reduceAdd]) <;> rfl) (hn : H.length = n := by (try simp only [↓List.length_cons, ↓List.length_nil, Nat.reduceAdd]) <;> rfl) (hH : givesF σ N H1 σ h0 = some H2 := by (try simp (maxSteps := 1000000) only [givesF, setF, updF, Fam.zeroth, Fam.rk, Ck.rk, C.rk, E.rk, T.rk, key, List.map_cons, List.map_nil, List.cons_append, List.nil_append, List.length_cons, List.length_nil, Option.map_some, Option.bind_some, Nat.reduceAdd, Nat.zero_add, Nat.add_zero, Nat.add_sub_cancel_left, Int.toNat_natCast, reps, List.all_cons, List.all_nil, C.flat, List.append_eq, Bool.not_true, Bool.and_true, Bool.or_false, Bool.or_self, Bool.not_false, List.append_nil, Bool.and_self, ↓trG_rk]) <;> rfl) (hle : leS n H1 σ N σ h0 (belsK N (h0.map (Fam.rk σ N)) (argsK n args (args0.map (T.rk σ N)) True)) := by repeat' first | refine And.intro ?_ ?_ | exact xeC | fail) : CallK P F args H K := CallK.mk3 hc hap hnl h1 hN hn hH hle hk
set_option maxRecDepth 10000 in
set_option maxHeartbeats 16000000 in
theorem cchunkR (b : Bg) (X : List Er) (c k : Nat) (hb : BOk b) (hl : b.s.length ≤ 100000) (hX : ers X = b.L) (hk : k < X.length) :
    Ctr Tryz.prog 107 [.c (.p 0 0 0), .c (.i .i64 (k : Nat))] (rbH b X c)
      fun v h => ∃ c', v = .t [.c (.sl 3 0 3 0 (chL b k).length c'), .c (.i .i64 (chE b k : Nat))] ∧ h = rbH b X c ++ [.one (rcR true (chL b k) c')] := by
  have hLl : b.L.length = X.length := by rw [← hX]; exact List.length_map _
  have hbk := hb.at (k := k) (by omega)
  have hgk : ∀ i, b.L.getD i default = (X.getD i default).e := fun i => by rw [← hX, getErs]
  rw [hgk] at hbk
  have hn := hb.n
  have hlen := hb.len
  have hz : (mkS b.s).size = b.s.length := rfl
  have e2 : 0 + ((k : Nat) : Int).toNat = k := by omega
  have e3 : 0 + (((k : Nat) : Int) + 1).toNat = k + 1 := by omega
  have hend : endE b k = if k + 1 < X.length then (X.getD (k + 1) default).e.off else b.ix := by unfold endE; rw [hLl, hgk]
  refine Ctr.mk' tbv mixed Tryz.func107 rfl rfl rfl (fun _ _ => by kernel_rfl) (by kernel_rfl) (by rfl) (by rfl) (by (repeat' first | refine And.intro ?_ ?_ | exact xeC | fail) <;> exact xmT) ?_
  generalize hxx : chX b k = x
  obtain ⟨xs, xe⟩ := x
  generalize hR : recL (mkS xs) = R
  obtain ⟨hE1, hL1⟩ := chE_eq hxx hR
  rw [hgk] at hE1
  have hxx2 : exaL ((b.s.take (endE b k)).drop (X.getD k default).e.off) = (xs, xe) := by rw [← hgk]; exact hxx
  have hxl := exaL_len ((b.s.take (endE b k)).drop (X.getD k default).e.off)
  rw [hxx2, List.length_drop, List.length_take] at hxl
  simp only at hxl
  have hof2 : k + 1 < X.length → (X.getD (0 + ((k : Nat) : Int).toNat) default).e.off ≤ (X.getD (0 + (((k : Nat) : Int) + 1).toNat) default).e.off ∧ (X.getD (0 + (((k : Nat) : Int) + 1).toNat) default).e.off ≤ b.s.length := fun h => by
    rw [e2, e3]; rw [if_pos h] at hend; omega
  have hof3 : ¬ k + 1 < X.length → (X.getD (0 + ((k : Nat) : Int).toNat) default).e.off ≤ b.ix ∧ b.ix ≤ b.s.length := fun h => by
    rw [e2]; rw [if_neg h] at hend; omega
  have hext : ∀ a d, (mkS b.s).extract a d = mkS ((b.s.take d).drop a) := fun a d => mkS_ext _ _ _
  have g1 : ixG trC X k = tlR true (X.getD k default).e.T (X.getD k default).cap := ixG_at hk
  have hB : ((b.s.take (endE b k)).drop (X.getD k default).e.off).length ≤ 100000 := by rw [List.length_drop, List.length_take]; omega
  have hTk := hbk.2.2.2.1
  have hset : ∀ ck, ck = ixG trC X k → (fun y => if y = k then ck else if y = k then ck else trG X y) = trG X := fun ck h => by
    funext y
    by_cases e : y = k
    · rw [if_pos e, h, e]
    · rw [if_neg e, if_neg e]
  repeat' (first | (fail_if_success (with_reducible refine xstp ?_)); first | ((with_reducible refine And.intro (fun (hb : _ = true) => ?_) (fun (hb : _ = false) => ?_)) <;> replace hb := xnC hb <;> (try first | exact xfC | exact bff hb (by assumption) | exact bff (by assumption) hb)) | ((with_reducible refine And.intro ?_ ?_); focus exact xoC) | ((with_reducible refine OvK.fit ?_ ?_); focus exact xoC) | (with_reducible intro hc; (try simp only [capsP, and_true] at hc); (try exact xfC)) | ((fail_if_success (with_reducible first | refine xgon ?_ | intro _)); (conv => whnf); (fail_if_success (fail_if_success (with_reducible first | refine xstp ?_ | refine xgon ?_ | intro _)))))
  all_goals (
    first
      | rw [e2, e3, Int.toNat_natCast, Int.toNat_natCast, hext, ← (show endE b k = (X.getD (k + 1) default).e.off by rw [hend, if_pos (by omega)])]
      | rw [e2, Int.toNat_natCast, Int.toNat_natCast, hext, ← (show endE b k = b.ix by rw [hend, if_neg (by omega)])]
    refine cH42zgC1 (σ := []) (nl := []) (cexaR ((b.s.take (endE b k)).drop (X.getD k default).e.off) (by omega)) ?_ (hle := by (repeat' first | refine And.intro ?_ ?_ | exact xeC | fail) <;> exact xmT)
    rintro v h' ⟨rfl, rfl⟩ hcaps
    rw [hxx2]
    refine rH42zgC0 ?_
    repeat' (first | (fail_if_success (with_reducible refine xstp ?_)); first | ((with_reducible refine And.intro (fun (hb : _ = true) => ?_) (fun (hb : _ = false) => ?_)) <;> replace hb := xnC hb <;> (try first | exact xfC | exact bff hb (by assumption) | exact bff (by assumption) hb)) | ((fail_if_success (with_reducible first | refine xgon ?_ | intro _)); (conv => whnf); (fail_if_success (fail_if_success (with_reducible first | refine xstp ?_ | refine xgon ?_ | intro _)))))
    · rw [if_pos (by omega)] at hE1
      have hL : chL b k = [] := by rw [hL1, if_neg (by omega)]
      rw [hL, hE1]
      refine FinK.mk ⟨[0, 1, 2, 99], _, _, ⟨0, rfl, rfl⟩, ?_⟩
      (repeat' first | refine And.intro ?_ ?_ | exact xeC | fail)
      all_goals exact xmT
    rw [if_neg (by omega)] at hE1
    refine cH42zgC1 (σ := []) (nl := []) (crecsR (mkS xs) (by show xs.length ≤ _; omega)) ?_ (hle := by (repeat' first | refine And.intro ?_ ?_ | exact xeC | fail) <;> exact xmT)
    rintro v h' ⟨c3, rfl, rfl⟩ hcaps
    rw [hR]
    refine rH42zgC0 ?_
    have hRl : R.length ≤ 100000 := by rw [← hR]; have := recL_len (mkS xs); have : (mkS xs).size = xs.length := rfl; omega
    have eR : ((R.length : Int) - 1).toNat = R.length - 1 := by omega
    repeat' (first | (fail_if_success (with_reducible refine xstp ?_)); first | ((with_reducible refine And.intro (fun (hb : _ = true) => ?_) (fun (hb : _ = false) => ?_)) <;> replace hb := xnC hb <;> (try first | exact xfC | exact bff hb (by assumption) | exact bff (by assumption) hb)) | ((with_reducible refine And.intro ?_ ?_); focus exact xoC) | ((with_reducible refine OvK.fit ?_ ?_); focus exact xoC) | ((fail_if_success (with_reducible first | refine xgon ?_ | intro _)); (conv => whnf); (fail_if_success (fail_if_success (with_reducible first | refine xstp ?_ | refine xgon ?_ | intro _)))))
    · skip
      have hE : chE b k = 2 := by rw [hE1, if_neg (fun q => hb q.1)]
      have hL : chL b k = [] := by rw [hL1, if_neg (by rw [hE]; decide)]
      rw [hE, hL]
      refine FinK.mk ⟨[0, 1, 2, 99], _, _, ⟨0, rfl, rfl⟩, ?_⟩
      (repeat' first | refine And.intro ?_ ?_ | exact xeC | fail)
      all_goals exact xmT
    · skip
      have hE : chE b k = 2 := by rw [hE1, if_neg (fun q => hb q.2.1)]
      have hL : chL b k = [] := by rw [hL1, if_neg (by rw [hE]; decide)]
      rw [hE, hL]
      refine FinK.mk ⟨[0, 1, 2, 99], _, _, ⟨0, rfl, rfl⟩, ?_⟩
      (repeat' first | refine And.intro ?_ ?_ | exact xeC | fail)
      all_goals exact xmT
    · skip
      have hE : chE b k = 2 := by rw [hE1, if_neg (fun q => hb (by rw [eR]; exact q.2.2.1))]
      have hL : chL b k = [] := by rw [hL1, if_neg (by rw [hE]; decide)]
      rw [hE, hL]
      refine FinK.mk ⟨[0, 1, 2, 99], _, _, ⟨0, rfl, rfl⟩, ?_⟩
      (repeat' first | refine And.intro ?_ ?_ | exact xeC | fail)
      all_goals exact xmT
    have hel : (R.getD (R.length - 1) default).at_ = (X.getD k default).e.la := by rw [← eR]; exact hb
    rename_i hfi
    have hE2 : chE b k = if tal R = (X.getD k default).e.T then 0 else 2 := by
      rw [hE1]
      by_cases hq : tal R = (X.getD k default).e.T
      · rw [if_pos ⟨by assumption, hfi, hel, hq⟩, if_pos hq]
      · rw [if_neg (fun q => hq q.2.2.2), if_neg hq]
    clear hE1
    refine cH42zgC1 (σ := [.whole 3]) (nl := []) (ctallies true R c3 (by omega)) ?_ (hle := by (repeat' first | refine And.intro ?_ ?_ | exact xeC | fail) <;> exact xmT)
    rintro v h' ⟨c4, rfl, rfl⟩ hcaps
    refine rH42zgC0 ?_
    have htl := tal_le R
    repeat' (first | (fail_if_success (with_reducible refine xstp ?_)); first | ((with_reducible refine And.intro ?_ ?_); focus exact xoC) | ((fail_if_success (with_reducible first | refine xgon ?_ | intro _)); (conv => whnf); (fail_if_success (fail_if_success (with_reducible first | refine xstp ?_ | refine xgon ?_ | intro _)))))
    rw [e2]
    by_cases hq : tal R = (X.getD k default).e.T
    · refine cH42zgC1 (σ := [.whole 4, .mem 2 k]) (nl := []) (csame true true (tal R) (X.getD k default).e.T c4 (X.getD k default).cap (by omega)) ?_ (hle := by (repeat' first | refine And.intro ?_ ?_ | exact xeC | fail) <;> (first | (refine ManyK.mk ⟨_, g1, ?_⟩ <;> (repeat' first | refine And.intro ?_ ?_ | exact xeC | fail)) | exact xmT))
      rw [decide_eq_true (p := tal R = (X.getD k default).e.T) hq]
      rintro v h' ⟨rfl, rfl⟩ hcaps
      refine rH42zgC0 ?_
      rw [hset _ g1.symm]
      repeat' (first | (fail_if_success (with_reducible refine xstp ?_)); first | ((with_reducible refine And.intro (fun (hb : _ = true) => ?_) (fun (hb : _ = false) => ?_)) <;> replace hb := xnC hb <;> (try first | exact xfC | exact bff hb (by assumption) | exact bff (by assumption) hb)) | ((fail_if_success (with_reducible first | refine xgon ?_ | intro _)); (conv => whnf); (fail_if_success (fail_if_success (with_reducible first | refine xstp ?_ | refine xgon ?_ | intro _)))))
      rw [if_pos hq] at hE2
      have hL : chL b k = R := by rw [hL1, if_pos hE2]
      rw [hE2, hL]
      refine FinK.mk ⟨[0, 1, 2, 3], _, _, ⟨c3, rfl, rfl⟩, ?_⟩
      (repeat' first | refine And.intro ?_ ?_ | exact xeC | fail)
      all_goals exact xmT
    · refine cH42zgC1 (σ := [.whole 4, .mem 2 k]) (nl := []) (csame true true (tal R) (X.getD k default).e.T c4 (X.getD k default).cap (by omega)) ?_ (hle := by (repeat' first | refine And.intro ?_ ?_ | exact xeC | fail) <;> (first | (refine ManyK.mk ⟨_, g1, ?_⟩ <;> (repeat' first | refine And.intro ?_ ?_ | exact xeC | fail)) | exact xmT))
      rw [decide_eq_false (p := tal R = (X.getD k default).e.T) hq]
      rintro v h' ⟨rfl, rfl⟩ hcaps
      refine rH42zgC0 ?_
      rw [hset _ g1.symm]
      repeat' (first | (fail_if_success (with_reducible refine xstp ?_)); first | ((with_reducible refine And.intro (fun (hb : _ = true) => ?_) (fun (hb : _ = false) => ?_)) <;> replace hb := xnC hb <;> (try first | exact xfC | exact bff hb (by assumption) | exact bff (by assumption) hb)) | ((fail_if_success (with_reducible first | refine xgon ?_ | intro _)); (conv => whnf); (fail_if_success (fail_if_success (with_reducible first | refine xstp ?_ | refine xgon ?_ | intro _)))))
      rw [if_neg hq] at hE2
      have hL : chL b k = [] := by rw [hL1, if_neg (by rw [hE2]; decide)]
      rw [hE2, hL]
      refine FinK.mk ⟨[0, 1, 2, 99], _, _, ⟨0, rfl, rfl⟩, ?_⟩
      (repeat' first | refine And.intro ?_ ?_ | exact xeC | fail)
      all_goals exact xmT
    )
end Go.Proofs.YtenompgpjlbelaaGreatDoor


namespace Go.Proofs.YtenompgpjlbelaaGreatDoor
open Go.X
set_option linter.unusedSimpArgs false
set_option linter.unusedVariables false
open P4
open P5
theorem rH42zgD0 {σ : List Sg} {H h' : List Fam} {v : T} {K : T → List Fam → Prop} {H' : List Fam} {v' : T} {N : Nat} (hk : K v' H') (hN : H.length = N := by (try simp only [↓List.length_cons, ↓List.length_nil, Nat.reduceAdd]) <;> rfl) (h : givesF σ N H σ h' = some H' := by (try simp (maxSteps := 1000000) only [givesF, setF, updF, Fam.zeroth, Fam.rk, Ck.rk, C.rk, E.rk, T.rk, key, List.map_cons, List.map_nil, List.cons_append, List.nil_append, List.length_cons, List.length_nil, Option.map_some, Option.bind_some, Nat.reduceAdd, Nat.zero_add, Nat.add_zero, Nat.add_sub_cancel_left, Int.toNat_natCast, reps, List.all_cons, List.all_nil, C.flat, List.append_eq, Bool.not_true, Bool.and_true, Bool.or_false, Bool.or_self, Bool.not_false, List.append_nil, Bool.and_self, ↓trG_rk]) <;> rfl) (hv : v.rk σ N = v' := by (try simp only [givesF, setF, updF, Fam.zeroth, Fam.rk, Ck.rk, C.rk, E.rk, T.rk, key, List.map_cons, List.map_nil, List.cons_append, List.nil_append, List.length_cons, List.length_nil, Option.map_some, Option.bind_some, Nat.reduceAdd, Nat.zero_add, Nat.add_zero, Nat.add_sub_cancel_left, Int.toNat_natCast, reps, List.all_cons, List.all_nil, C.flat, List.append_eq, Bool.not_true, Bool.and_true, Bool.or_false, Bool.or_self, Bool.not_false, List.append_nil, Bool.and_self, ↓trG_rk]) <;> rfl) : RetG σ H h' v K := ret_mk3 hN h hv hk
theorem cH42zgD1 {P : Program} {F : Nat} {args : List T} {H : List Fam} {K : T → List Fam → Prop} {σ : List Sg} {nl : List Fam} {args0 : List T} {h0 : List Fam} {Q : T → List Fam → Prop} {H2 H1 : List Fam} {N n : Nat} (hc : Ctr P F args0 h0 Q) (hk : ∀ v h', Q v h' → capsP h' → RetG σ H2 h' v K) (hap : apart σ = true := by rfl) (hnl : nl.all nilB = true := by rfl) (h1 : H ++ nl = H1 := by first | exact List.append_nil _ | ((try simp only [List.cons_append, List.nil_append]) <;> rfl)) (hN : H1.length = N := by (try simp only [↓List.length_cons, ↓List.length_nil, Nat.reduceAdd]) <;> rfl) (hn : H.length = n := by (try simp only [↓List.length_cons, ↓List.length_nil, Nat.reduceAdd]) <;> rfl) (hH : givesF σ N H1 σ h0 = some H2 := by (try simp (maxSteps := 1000000) only [givesF, setF, updF, Fam.zeroth, Fam.rk, Ck.rk, C.rk, E.rk, T.rk, key, List.map_cons, List.map_nil, List.cons_append, List.nil_append, List.length_cons, List.length_nil, Option.map_some, Option.bind_some, Nat.reduceAdd, Nat.zero_add, Nat.add_zero, Nat.add_sub_cancel_left, Int.toNat_natCast, reps, List.all_cons, List.all_nil, C.flat, List.append_eq, Bool.not_true, Bool.and_true, Bool.or_false, Bool.or_self, Bool.not_false, List.append_nil, Bool.and_self, ↓trG_rk]) <;> rfl) (hle : leS n H1 σ N σ h0 (belsK N (h0.map (Fam.rk σ N)) (argsK n args (args0.map (T.rk σ N)) True)) := by repeat' first | refine And.intro ?_ ?_ | exact xeC | fail) : CallK P F args H K := CallK.mk3 hc hap hnl h1 hN hn hH hle hk
set_option maxRecDepth 10000 in
set_option maxHeartbeats 16000000 in
theorem cReadR (b : Bg) (X : List Er) (c : Nat) (t : List UInt8) (fr un : Int) (hB : BOk b) (hl : b.s.length ≤ 100000) (hX : ers X = b.L) :
    Ctr Tryz.prog 84 [.c (.p 0 0 0), .c (.s (mkS t)), .c (.i .i64 fr), .c (.i .i64 un)] (rbH b X c)
      fun v h => ∃ c', v = .t [.c (.sl 3 0 3 0 (readB b t fr un).1.length c'), .c (.i .i64 ((readB b t fr un).2 : Nat))] ∧ h = rbH b X c ++ [.one (rcR true (readB b t fr un).1 c')] := by
  have hLl : b.L.length = X.length := by rw [← hX]; exact List.length_map _
  have hgk : ∀ i, b.L.getD i default = (X.getD i default).e := fun i => by rw [← hX, getErs]
  have hn := hB.n
  have hlen := hB.len
  refine Ctr.mk' tbv mixed Tryz.func84 rfl rfl rfl (fun _ _ => by kernel_rfl) (by kernel_rfl) (by rfl) (by rfl) (by (repeat' first | refine And.intro ?_ ?_ | exact xeC | fail) <;> exact xmT) ?_
  repeat' (first | (fail_if_success (with_reducible refine xstp ?_)); first | (with_reducible intro hc; (try simp only [capsP, and_true] at hc); (try exact xfC)) | ((fail_if_success (with_reducible first | refine xgon ?_ | intro _)); (conv => whnf); (fail_if_success (fail_if_success (with_reducible first | refine xstp ?_ | refine xgon ?_ | intro _)))))
  refine LoopK.mk' {p : Nat × List Rc × Nat // RdI b t fr un p.1 p.2.1}
    (fun ⟨(i, O, c1), _⟩ => ⟨[(0, .c (.p 0 0 0)), (1, .c (.s (mkS t))), (2, .c (.i .i64 fr)), (3, .c (.i .i64 un)), (10, .c (.sl 3 0 3 0 O.length c1)), (11, .c (.i .i64 (i : Nat)))],
      [.one (rbC b 1 X.length c), .one (erR 2 X c), .many (trG X), .one (rcR true O c1)]⟩) (fun p => X.length - p.1.1)
    ⟨⟨(0, [], 0), RdI.init b t fr un⟩, [0, 1, 2, 99], ?_⟩ ?_
  · (repeat' first | refine And.intro ?_ ?_ | exact xeC | fail)
    all_goals first
      | exact xmT
      | (intro i hi; exact absurd hi (Nat.not_lt_zero i))
      | skip
  rintro ⟨⟨i, O, c1⟩, hI⟩
  simp only at hI
  have hil := hI.le
  have hOl := hI.len
  have e2 : 0 + ((i : Nat) : Int).toNat = i := by omega
  rcases Nat.lt_or_ge i X.length with hlt | hge
  · have g1 : ixG trC X i = tlR true (X.getD i default).e.T (X.getD i default).cap := ixG_at hlt
    have hTl := (hB.sz (b.L.getD i default) (by rw [getD_at (by omega)]; exact List.getElem_mem _)).1
    rw [hgk] at hTl
    have hof := offE_le hB (i := i) (by omega)
    have hsk : skipE (b.L.getD i default) t fr un ↔ ¬ hasT (X.getD i default).e t ∨ ((X.getD i default).e.la : Int) < fr ∨ un ≤ ((X.getD i default).e.fi : Int) := by rw [hgk]; exact Iff.rfl
    have hset : ∀ ck, ck = ixG trC X i → (fun y => if y = i then ck else if y = i then ck else trG X y) = trG X := fun ck h => by
      funext y
      by_cases e : y = i
      · rw [if_pos e, h, e]
      · rw [if_neg e, if_neg e]
    repeat' (first | (fail_if_success (with_reducible refine xstp ?_)); first | ((with_reducible refine And.intro (fun (hb : _ = true) => ?_) (fun (hb : _ = false) => ?_)) <;> replace hb := xnC hb <;> (try first | exact xfC | exact bff hb (by assumption) | exact bff (by assumption) hb)) | ((with_reducible refine And.intro ?_ ?_); focus exact xoC) | (with_reducible intro hc; (try simp only [capsP, and_true] at hc); (try exact xfC)) | ((fail_if_success (with_reducible first | refine xgon ?_ | intro _)); (conv => whnf); (fail_if_success (fail_if_success (with_reducible first | refine xstp ?_ | refine xgon ?_ | intro _)))))
    rw [e2]
    by_cases hm : hasT (X.getD i default).e t
    · refine cH42zgD1 (σ := [.mem 2 i]) (nl := []) (chas true (X.getD i default).e (X.getD i default).cap t hTl) ?_ (hle := by (repeat' first | refine And.intro ?_ ?_ | exact xeC | fail) <;> (first | (refine ManyK.mk ⟨_, g1, ?_⟩ <;> (repeat' first | refine And.intro ?_ ?_ | exact xeC | fail)) | exact xmT))
      rw [decide_eq_true (p := hasT (X.getD i default).e t) hm]
      rintro v h' ⟨rfl, rfl⟩ hcaps
      refine rH42zgD0 ?_
      rw [hset _ g1.symm]
      repeat' (first | (fail_if_success (with_reducible refine xstp ?_)); first | ((with_reducible refine And.intro (fun (hb : _ = true) => ?_) (fun (hb : _ = false) => ?_)) <;> replace hb := xnC hb <;> (try first | exact xfC | exact bff hb (by assumption) | exact bff (by assumption) hb)) | ((with_reducible refine And.intro ?_ ?_); focus exact xoC) | ((with_reducible refine OvK.fit ?_ ?_); focus exact xoC) | ((fail_if_success (with_reducible first | refine xgon ?_ | intro _)); (conv => whnf); (fail_if_success (fail_if_success (with_reducible first | refine xstp ?_ | refine xgon ?_ | intro _)))))
      · skip
        refine ⟨⟨(i + 1, O, c1), hI.skip hB (by omega) (hsk.2 (.inr (.inl (by omega))))⟩, [0, 1, 2, 3], by simp only; omega, ?_⟩
        (repeat' first | refine And.intro ?_ ?_ | exact xeC | fail)
        all_goals exact xmT
      · skip
        refine ⟨⟨(i + 1, O, c1), hI.skip hB (by omega) (hsk.2 (.inr (.inr (by omega))))⟩, [0, 1, 2, 3], by simp only; omega, ?_⟩
        (repeat' first | refine And.intro ?_ ?_ | exact xeC | fail)
        all_goals exact xmT
      have hns : ¬ skipE (b.L.getD i default) t fr un := fun q => by
        rcases hsk.1 q with q | q | q
        · exact q hm
        · omega
        · omega
      clear hsk
      refine cH42zgD1 (σ := [.whole 0, .whole 1, .whole 2]) (nl := []) (cchunkR b X c i hB hl hX hlt) ?_ (hle := by (repeat' first | refine And.intro ?_ ?_ | exact xeC | fail) <;> exact xmT)
      rintro v h' ⟨c3, rfl, rfl⟩ hcaps
      refine rH42zgD0 ?_
      repeat' (first | (fail_if_success (with_reducible refine xstp ?_)); first | ((with_reducible refine And.intro (fun (hb : _ = true) => ?_) (fun (hb : _ = false) => ?_)) <;> replace hb := xnC hb <;> (try first | exact xfC | exact bff hb (by assumption) | exact bff (by assumption) hb)) | ((fail_if_success (with_reducible first | refine xgon ?_ | intro _)); (conv => whnf); (fail_if_success (fail_if_success (with_reducible first | refine xstp ?_ | refine xgon ?_ | intro _)))))
      · have hE : chE b i ≠ 0 := by omega
        rw [hI.err (by omega) hns hE]
        refine FinK.mk ⟨[0, 1, 2, 99], _, _, ⟨0, rfl, rfl⟩, ?_⟩
        (repeat' first | refine And.intro ?_ ?_ | exact xeC | fail)
        all_goals exact xmT
      have hE : chE b i = 0 := by omega
      have hcL := chL_len b i
      have hgo := hI.go hB (by omega) hns hE
      generalize chL b i = L at *
      refine LoopK.mk' {p : Nat × Nat // p.1 ≤ L.length}
        (fun ⟨(j, c2), _⟩ => ⟨[(0, .c (.p 0 0 0)), (1, .c (.s (mkS t))), (2, .c (.i .i64 fr)), (3, .c (.i .i64 un)), (10, .c (.sl 3 0 3 0 (O ++ selR t fr un (L.take j)).length c2)), (11, .c (.i .i64 (i : Nat))), (12, .c (.sl 4 0 3 0 L.length c3)), (14, .c (.i .i64 (j : Nat)))],
          [.one (rbC b 1 X.length c), .one (erR 2 X c), .many (trG X), .one (rcR true (O ++ selR t fr un (L.take j)) c2), .one (rcR true L c3)]⟩) (fun p => L.length - p.1.1)
        ⟨⟨(0, c1), Nat.zero_le _⟩, [0, 1, 2, 3, 4], ?_⟩ ?_
      · (repeat' first | refine And.intro ?_ ?_ | exact xeC | fail)
        all_goals first
          | exact xmT
          | (rw [selR_0]; done)
          | (rw [selR_0]; exact Nat.le_refl _)
          | (rw [selR_0]; intro i hi; rfl)
          | skip
      rintro ⟨⟨j, c2⟩, hj⟩
      simp only at hj
      have hselj := selR_le t fr un (L.take j)
      rw [List.length_take] at hselj
      have hOb : (O ++ selR t fr un (L.take j)).length ≤ 200000000 := by rw [List.length_append]; omega
      have e3 : 0 + ((j : Nat) : Int).toNat = j := by omega
      rcases Nat.lt_or_ge j L.length with hjl | hjg
      · have hts := selR_snoc t fr un (L.take j) (L.getD j default)
        rw [← take_snocG L hjl] at hts
        repeat' (first | (fail_if_success (with_reducible refine xstp ?_)); first | ((with_reducible refine And.intro (fun (hb : _ = true) => ?_) (fun (hb : _ = false) => ?_)) <;> replace hb := xnC hb <;> (try first | exact xfC | exact bff hb (by assumption) | exact bff (by assumption) hb)) | ((with_reducible refine And.intro ?_ ?_); focus exact xoC) | ((with_reducible refine OvK.fit ?_ ?_); focus exact xoC) | ((with_reducible refine Or.inl ⟨?_, ?_, ?_⟩); (focus rfl); focus exact xaC) | (with_reducible intro hc; (try simp only [capsP, and_true] at hc); (try exact xfC)) | ((fail_if_success (with_reducible first | refine xgon ?_ | intro _)); (conv => whnf); (fail_if_success (fail_if_success (with_reducible first | refine xstp ?_ | refine xgon ?_ | intro _)))))
        · skip
          rename_i c4
          rw [e3]
          rw [if_pos ⟨(.inl (mkS_nil.1 (by assumption))), by omega, by omega⟩] at hts
          refine ⟨⟨(j + 1, c4), hjl⟩, [0, 1, 2, 6, 4], by simp only; omega, ?_⟩
          simp only [hts, ← List.append_assoc]
          (repeat' first | refine And.intro ?_ ?_ | exact xeC | fail)
          all_goals first
            | exact xmT
            | skip
          all_goals first | omega | (simp only [List.length_append, List.length_singleton]; done) | (rw [List.length_append, List.length_singleton]; omega) | (intro i hi; (first | refine app_rowG _ _ _ _ ?_ i hi | refine app_row _ _ _ ?_ i hi); first | rfl | (simp only [Int.toNat_natCast, Nat.zero_add]; rfl))
        · skip
          rw [if_neg (fun q => by omega), List.append_nil] at hts
          refine ⟨⟨(j + 1, c2), hjl⟩, [0, 1, 2, 3, 4], by simp only; omega, ?_⟩
          simp only [hts]
          (repeat' first | refine And.intro ?_ ?_ | exact xeC | fail)
          all_goals first
            | exact xmT
            | skip
        · skip
          rw [if_neg (fun q => by omega), List.append_nil] at hts
          refine ⟨⟨(j + 1, c2), hjl⟩, [0, 1, 2, 3, 4], by simp only; omega, ?_⟩
          simp only [hts]
          (repeat' first | refine And.intro ?_ ?_ | exact xeC | fail)
          all_goals first
            | exact xmT
            | skip
        · skip
          rename_i c4
          rw [e3]
          rw [if_pos ⟨(.inr (mkS_inj.1 (by assumption))), by omega, by omega⟩] at hts
          refine ⟨⟨(j + 1, c4), hjl⟩, [0, 1, 2, 6, 4], by simp only; omega, ?_⟩
          simp only [hts, ← List.append_assoc]
          (repeat' first | refine And.intro ?_ ?_ | exact xeC | fail)
          all_goals first
            | exact xmT
            | skip
          all_goals first | omega | (simp only [List.length_append, List.length_singleton]; done) | (rw [List.length_append, List.length_singleton]; omega) | (intro i hi; (first | refine app_rowG _ _ _ _ ?_ i hi | refine app_row _ _ _ ?_ i hi); first | rfl | (simp only [Int.toNat_natCast, Nat.zero_add]; rfl))
        · skip
          rw [if_neg (fun q => by omega), List.append_nil] at hts
          refine ⟨⟨(j + 1, c2), hjl⟩, [0, 1, 2, 3, 4], by simp only; omega, ?_⟩
          simp only [hts]
          (repeat' first | refine And.intro ?_ ?_ | exact xeC | fail)
          all_goals first
            | exact xmT
            | skip
        · skip
          rw [if_neg (fun q => by omega), List.append_nil] at hts
          refine ⟨⟨(j + 1, c2), hjl⟩, [0, 1, 2, 3, 4], by simp only; omega, ?_⟩
          simp only [hts]
          (repeat' first | refine And.intro ?_ ?_ | exact xeC | fail)
          all_goals first
            | exact xmT
            | skip
        · rename_i h5
          rw [if_neg (fun q => q.1.elim (fun h => h5 (mkS_nil.2 h)) (fun h => hb (by rw [h]))), List.append_nil] at hts
          refine ⟨⟨(j + 1, c2), hjl⟩, [0, 1, 2, 3, 4], by simp only; omega, ?_⟩
          simp only [hts]
          (repeat' first | refine And.intro ?_ ?_ | exact xeC | fail)
          all_goals first
            | exact xmT
            | skip
      · obtain rfl : j = L.length := by omega
        repeat' (first | (fail_if_success (with_reducible refine xstp ?_)); first | ((with_reducible refine And.intro (fun (hb : _ = true) => ?_) (fun (hb : _ = false) => ?_)) <;> replace hb := xnC hb <;> (try first | exact xfC | exact bff hb (by assumption) | exact bff (by assumption) hb)) | ((with_reducible refine OvK.fit ?_ ?_); focus exact xoC) | (with_reducible intro hc; (try simp only [capsP, and_true] at hc); (try exact xfC)) | ((fail_if_success (with_reducible first | refine xgon ?_ | intro _)); (conv => whnf); (fail_if_success (fail_if_success (with_reducible first | refine xstp ?_ | refine xgon ?_ | intro _)))))
        rw [List.take_length]
        refine ⟨⟨(i + 1, O ++ selR t fr un L, c2), hgo⟩, [0, 1, 2, 3], by simp only; omega, ?_⟩
        (repeat' first | refine And.intro ?_ ?_ | exact xeC | fail)
        all_goals first
          | exact xmT
          | skip
    · refine cH42zgD1 (σ := [.mem 2 i]) (nl := []) (chas true (X.getD i default).e (X.getD i default).cap t hTl) ?_ (hle := by (repeat' first | refine And.intro ?_ ?_ | exact xeC | fail) <;> (first | (refine ManyK.mk ⟨_, g1, ?_⟩ <;> (repeat' first | refine And.intro ?_ ?_ | exact xeC | fail)) | exact xmT))
      rw [decide_eq_false (p := hasT (X.getD i default).e t) hm]
      rintro v h' ⟨rfl, rfl⟩ hcaps
      refine rH42zgD0 ?_
      rw [hset _ g1.symm]
      repeat' (first | (fail_if_success (with_reducible refine xstp ?_)); first | ((with_reducible refine And.intro (fun (hb : _ = true) => ?_) (fun (hb : _ = false) => ?_)) <;> replace hb := xnC hb <;> (try first | exact xfC | exact bff hb (by assumption) | exact bff (by assumption) hb)) | ((with_reducible refine OvK.fit ?_ ?_); focus exact xoC) | ((fail_if_success (with_reducible first | refine xgon ?_ | intro _)); (conv => whnf); (fail_if_success (fail_if_success (with_reducible first | refine xstp ?_ | refine xgon ?_ | intro _)))))
      refine ⟨⟨(i + 1, O, c1), hI.skip hB (by omega) (hsk.2 (.inl hm))⟩, [0, 1, 2, 3], by simp only; omega, ?_⟩
      (repeat' first | refine And.intro ?_ ?_ | exact xeC | fail)
      all_goals exact xmT
  · obtain rfl : i = X.length := by omega
    repeat' (first | (fail_if_success (with_reducible refine xstp ?_)); first | ((with_reducible refine And.intro (fun (hb : _ = true) => ?_) (fun (hb : _ = false) => ?_)) <;> replace hb := xnC hb <;> (try first | exact xfC | exact bff hb (by assumption) | exact bff (by assumption) hb)) | (with_reducible intro hc; (try simp only [capsP, and_true] at hc); (try exact xfC)) | ((fail_if_success (with_reducible first | refine xgon ?_ | intro _)); (conv => whnf); (fail_if_success (fail_if_success (with_reducible first | refine xstp ?_ | refine xgon ?_ | intro _)))))
    rw [(show readB b t fr un = (O, 0) from RdI.fin (by rw [hLl]; exact hI))]
    refine FinK.mk ⟨[0, 1, 2, 3], _, _, ⟨c1, rfl, rfl⟩, ?_⟩
    (repeat' first | refine And.intro ?_ ?_ | exact xeC | fail)
    all_goals exact xmT
set_option maxRecDepth 10000 in
theorem cAllR (b : Bg) (X : List Er) (c : Nat) (hB : BOk b) (hl : b.s.length ≤ 100000) (hX : ers X = b.L) :
    Ctr Tryz.prog 61 [.c (.p 0 0 0)] (rbH b X c)
      fun v h => ∃ c', v = .t [.c (.sl 3 0 3 0 (readB b [] 0 1099511627777).1.length c'), .c (.i .i64 ((readB b [] 0 1099511627777).2 : Nat))] ∧ h = rbH b X c ++ [.one (rcR true (readB b [] 0 1099511627777).1 c')] := by
  refine Ctr.mk' tbv mixed Tryz.func61 rfl rfl rfl (fun _ _ => by kernel_rfl) (by kernel_rfl) (by rfl) (by rfl) (by (repeat' first | refine And.intro ?_ ?_ | exact xeC | fail) <;> exact xmT) ?_
  repeat' (first | (fail_if_success (with_reducible refine xstp ?_)); first | (with_reducible intro hc; (try simp only [capsP, and_true] at hc); (try exact xfC)) | ((fail_if_success (with_reducible first | refine xgon ?_ | intro _)); (conv => whnf); (fail_if_success (fail_if_success (with_reducible first | refine xstp ?_ | refine xgon ?_ | intro _)))))
  refine cH42zgD1 (σ := [.whole 0, .whole 1, .whole 2]) (nl := []) (cReadR b X c [] 0 1099511627777 hB hl hX) ?_ (hle := by (repeat' first | refine And.intro ?_ ?_ | exact xeC | fail) <;> exact xmT)
  rintro v h' ⟨c3, rfl, rfl⟩ hcaps
  refine rH42zgD0 ?_
  repeat' (first | (fail_if_success (with_reducible refine xstp ?_)); first | ((fail_if_success (with_reducible first | refine xgon ?_ | intro _)); (conv => whnf); (fail_if_success (fail_if_success (with_reducible first | refine xstp ?_ | refine xgon ?_ | intro _)))))
  refine FinK.mk ⟨[0, 1, 2, 3], _, _, ⟨c3, rfl, rfl⟩, ?_⟩
  (repeat' first | refine And.intro ?_ ?_ | exact xeC | fail)
  all_goals exact xmT
end Go.Proofs.YtenompgpjlbelaaGreatDoor


namespace Go.Proofs.YtenompgpjlbelaaGreatDoor
open Go.X
set_option linter.unusedSimpArgs false
set_option linter.unusedVariables false
open P4
open P5
set_option maxRecDepth 10000 in
theorem nrecord : Ctr Tryz.prog 11 [.c .nili, .c .nils, .c (.i .i64 300)] [] fun v h => v = .t [.c (.s ⟨#[]⟩), .c (.i .i64 6)] ∧ h = [] := by
  refine Ctr.mk' tbv mixed Tryz.func11 rfl rfl rfl (fun _ _ => by kernel_rfl) (by kernel_rfl) (by rfl) (by rfl) (by (repeat' first | refine And.intro ?_ ?_ | exact xeC | fail)) ?_
  repeat' (first | (fail_if_success (with_reducible refine xstp ?_)); first | (with_reducible intro hc; (try simp only [capsP, and_true] at hc); (try exact xfC)) | ((fail_if_success (with_reducible first | refine xgon ?_ | intro _)); (conv => whnf); (fail_if_success (fail_if_success (with_reducible first | refine xstp ?_ | refine xgon ?_ | intro _)))))
  exact FinK.mk ⟨[], _, _, ⟨rfl, rfl⟩, by (repeat' first | refine And.intro ?_ ?_ | exact xeC | fail)⟩
set_option maxRecDepth 10000 in
theorem nreplay (s : ByteArray) : Ctr Tryz.prog 14 [.c .nili, .c (.s s)] [] fun v h => v = .t [.c (.i .i64 0), .c (.i .i64 6)] ∧ h = [] := by
  refine Ctr.mk' tbv mixed Tryz.func14 rfl rfl rfl (fun _ _ => by kernel_rfl) (by kernel_rfl) (by rfl) (by rfl) (by (repeat' first | refine And.intro ?_ ?_ | exact xeC | fail)) ?_
  repeat' (first | (fail_if_success (with_reducible refine xstp ?_)); first | (with_reducible intro hc; (try simp only [capsP, and_true] at hc); (try exact xfC)) | ((fail_if_success (with_reducible first | refine xgon ?_ | intro _)); (conv => whnf); (fail_if_success (fail_if_success (with_reducible first | refine xstp ?_ | refine xgon ?_ | intro _)))))
  exact FinK.mk ⟨[], _, _, ⟨rfl, rfl⟩, by (repeat' first | refine And.intro ?_ ?_ | exact xeC | fail)⟩
set_option maxRecDepth 10000 in
theorem nstep (a : Int) : Ctr Tryz.prog 21 [.c .nilp, .c (.i .i64 a)] [] fun v h => v = .t [.c .nils, .c (.i .i64 6)] ∧ h = [] := by
  refine Ctr.mk' tbv mixed Tryz.func21 rfl rfl rfl (fun _ _ => by kernel_rfl) (by kernel_rfl) (by rfl) (by rfl) (by (repeat' first | refine And.intro ?_ ?_ | exact xeC | fail)) ?_
  repeat' (first | (fail_if_success (with_reducible refine xstp ?_)); first | (with_reducible intro hc; (try simp only [capsP, and_true] at hc); (try exact xfC)) | ((fail_if_success (with_reducible first | refine xgon ?_ | intro _)); (conv => whnf); (fail_if_success (fail_if_success (with_reducible first | refine xstp ?_ | refine xgon ?_ | intro _)))))
  exact FinK.mk ⟨[], _, _, ⟨rfl, rfl⟩, by (repeat' first | refine And.intro ?_ ?_ | exact xeC | fail)⟩
set_option maxRecDepth 10000 in
theorem nseek (a : Int) : Ctr Tryz.prog 24 [.c .nilp, .c (.i .i64 a)] [] fun v h => v = .c (.i .i64 6) ∧ h = [] := by
  refine Ctr.mk' tbv mixed Tryz.func24 rfl rfl rfl (fun _ _ => by kernel_rfl) (by kernel_rfl) (by rfl) (by rfl) (by (repeat' first | refine And.intro ?_ ?_ | exact xeC | fail)) ?_
  repeat' (first | (fail_if_success (with_reducible refine xstp ?_)); first | (with_reducible intro hc; (try simp only [capsP, and_true] at hc); (try exact xfC)) | ((fail_if_success (with_reducible first | refine xgon ?_ | intro _)); (conv => whnf); (fail_if_success (fail_if_success (with_reducible first | refine xstp ?_ | refine xgon ?_ | intro _)))))
  exact FinK.mk ⟨[], _, _, ⟨rfl, rfl⟩, by (repeat' first | refine And.intro ?_ ?_ | exact xeC | fail)⟩
set_option maxRecDepth 10000 in
theorem nrate (a b c : Int) : Ctr Tryz.prog 27 [.c .nilp, .c (.i .i64 a), .c (.i .i64 b), .c (.i .i64 c)] [] fun v h => v = .t [.c (.i .i64 0), .c (.i .i64 6)] ∧ h = [] := by
  refine Ctr.mk' tbv mixed Tryz.func27 rfl rfl rfl (fun _ _ => by kernel_rfl) (by kernel_rfl) (by rfl) (by rfl) (by (repeat' first | refine And.intro ?_ ?_ | exact xeC | fail)) ?_
  repeat' (first | (fail_if_success (with_reducible refine xstp ?_)); first | (with_reducible intro hc; (try simp only [capsP, and_true] at hc); (try exact xfC)) | ((fail_if_success (with_reducible first | refine xgon ?_ | intro _)); (conv => whnf); (fail_if_success (fail_if_success (with_reducible first | refine xstp ?_ | refine xgon ?_ | intro _)))))
  exact FinK.mk ⟨[], _, _, ⟨rfl, rfl⟩, by (repeat' first | refine And.intro ?_ ?_ | exact xeC | fail)⟩
set_option maxRecDepth 10000 in
theorem nnow : Ctr Tryz.prog 20 [.c .nilp] [] fun v h => v = .c (.i .i64 0) ∧ h = [] := by
  refine Ctr.mk' tbv mixed Tryz.func20 rfl rfl rfl (fun _ _ => by kernel_rfl) (by kernel_rfl) (by rfl) (by rfl) (by (repeat' first | refine And.intro ?_ ?_ | exact xeC | fail)) ?_
  repeat' (first | (fail_if_success (with_reducible refine xstp ?_)); first | (with_reducible intro hc; (try simp only [capsP, and_true] at hc); (try exact xfC)) | ((fail_if_success (with_reducible first | refine xgon ?_ | intro _)); (conv => whnf); (fail_if_success (fail_if_success (with_reducible first | refine xstp ?_ | refine xgon ?_ | intro _)))))
  exact FinK.mk ⟨[], _, _, ⟨rfl, rfl⟩, by (repeat' first | refine And.intro ?_ ?_ | exact xeC | fail)⟩
theorem rH42zjB0 {σ : List Sg} {H h' : List Fam} {v : T} {K : T → List Fam → Prop} {H' : List Fam} {v' : T} {N : Nat} (hk : K v' H') (hN : H.length = N := by (try simp only [↓List.length_cons, ↓List.length_nil, Nat.reduceAdd]) <;> rfl) (h : givesF σ N H σ h' = some H' := by (try simp (maxSteps := 1000000) only [givesF, setF, updF, Fam.zeroth, Fam.rk, Ck.rk, C.rk, E.rk, T.rk, key, List.map_cons, List.map_nil, List.cons_append, List.nil_append, List.length_cons, List.length_nil, Option.map_some, Option.bind_some, Nat.reduceAdd, Nat.zero_add, Nat.add_zero, Nat.add_sub_cancel_left, Int.toNat_natCast, reps, List.all_cons, List.all_nil, C.flat, List.append_eq, Bool.not_true, Bool.and_true, Bool.or_false, Bool.or_self, Bool.not_false, List.append_nil, Bool.and_self, ↓trG_rk]) <;> rfl) (hv : v.rk σ N = v' := by (try simp only [givesF, setF, updF, Fam.zeroth, Fam.rk, Ck.rk, C.rk, E.rk, T.rk, key, List.map_cons, List.map_nil, List.cons_append, List.nil_append, List.length_cons, List.length_nil, Option.map_some, Option.bind_some, Nat.reduceAdd, Nat.zero_add, Nat.add_zero, Nat.add_sub_cancel_left, Int.toNat_natCast, reps, List.all_cons, List.all_nil, C.flat, List.append_eq, Bool.not_true, Bool.and_true, Bool.or_false, Bool.or_self, Bool.not_false, List.append_nil, Bool.and_self, ↓trG_rk]) <;> rfl) : RetG σ H h' v K := ret_mk3 hN h hv hk
theorem cH42zjB1 {P : Program} {F : Nat} {args : List T} {H : List Fam} {K : T → List Fam → Prop} {σ : List Sg} {nl : List Fam} {args0 : List T} {h0 : List Fam} {Q : T → List Fam → Prop} {H2 H1 : List Fam} {N n : Nat} (hc : Ctr P F args0 h0 Q) (hk : ∀ v h', Q v h' → capsP h' → RetG σ H2 h' v K) (hap : apart σ = true := by rfl) (hnl : nl.all nilB = true := by rfl) (h1 : H ++ nl = H1 := by first | exact List.append_nil _ | ((try simp only [List.cons_append, List.nil_append]) <;> rfl)) (hN : H1.length = N := by (try simp only [↓List.length_cons, ↓List.length_nil, Nat.reduceAdd]) <;> rfl) (hn : H.length = n := by (try simp only [↓List.length_cons, ↓List.length_nil, Nat.reduceAdd]) <;> rfl) (hH : givesF σ N H1 σ h0 = some H2 := by (try simp (maxSteps := 1000000) only [givesF, setF, updF, Fam.zeroth, Fam.rk, Ck.rk, C.rk, E.rk, T.rk, key, List.map_cons, List.map_nil, List.cons_append, List.nil_append, List.length_cons, List.length_nil, Option.map_some, Option.bind_some, Nat.reduceAdd, Nat.zero_add, Nat.add_zero, Nat.add_sub_cancel_left, Int.toNat_natCast, reps, List.all_cons, List.all_nil, C.flat, List.append_eq, Bool.not_true, Bool.and_true, Bool.or_false, Bool.or_self, Bool.not_false, List.append_nil, Bool.and_self, ↓trG_rk]) <;> rfl) (hle : leS n H1 σ N σ h0 (belsK N (h0.map (Fam.rk σ N)) (argsK n args (args0.map (T.rk σ N)) True)) := by repeat' first | refine And.intro ?_ ?_ | exact xeC | fail) : CallK P F args H K := CallK.mk3 hc hap hnl h1 hN hn hH hle hk
set_option maxRecDepth 10000 in
set_option maxHeartbeats 4000000 in
theorem cnobody (s : ByteArray) : Ctr Tryz.prog 28 [.c (.s s)] [] fun v h => v = .c .tt ∧ h = [] := by
  refine Ctr.mk' tbv mixed Tryz.func28 rfl rfl rfl (fun _ _ => by kernel_rfl) (by kernel_rfl) (by rfl) (by rfl) (by (repeat' first | refine And.intro ?_ ?_ | exact xeC | fail)) ?_
  repeat' (first | (fail_if_success (with_reducible refine xstp ?_)); first | (with_reducible intro hc; (try simp only [capsP, and_true] at hc); (try exact xfC)) | ((fail_if_success (with_reducible first | refine xgon ?_ | intro _)); (conv => whnf); (fail_if_success (fail_if_success (with_reducible first | refine xstp ?_ | refine xgon ?_ | intro _)))))
  refine cH42zjB1 (σ := []) (nl := []) (nrecord) ?_
  rintro v h' ⟨rfl, rfl⟩ hcaps
  refine rH42zjB0 ?_
  repeat' (first | (fail_if_success (with_reducible refine xstp ?_)); first | ((fail_if_success (with_reducible first | refine xgon ?_ | intro _)); (conv => whnf); (fail_if_success (fail_if_success (with_reducible first | refine xstp ?_ | refine xgon ?_ | intro _)))))
  refine cH42zjB1 (σ := []) (nl := []) (nreplay s) ?_
  rintro v h' ⟨rfl, rfl⟩ hcaps
  refine rH42zjB0 ?_
  repeat' (first | (fail_if_success (with_reducible refine xstp ?_)); first | ((fail_if_success (with_reducible first | refine xgon ?_ | intro _)); (conv => whnf); (fail_if_success (fail_if_success (with_reducible first | refine xstp ?_ | refine xgon ?_ | intro _)))))
  refine cH42zjB1 (σ := []) (nl := []) (nstep 5) ?_
  rintro v h' ⟨rfl, rfl⟩ hcaps
  refine rH42zjB0 ?_
  repeat' (first | (fail_if_success (with_reducible refine xstp ?_)); first | ((fail_if_success (with_reducible first | refine xgon ?_ | intro _)); (conv => whnf); (fail_if_success (fail_if_success (with_reducible first | refine xstp ?_ | refine xgon ?_ | intro _)))))
  refine cH42zjB1 (σ := []) (nl := []) (nrate 1 1 5) ?_
  rintro v h' ⟨rfl, rfl⟩ hcaps
  refine rH42zjB0 ?_
  repeat' (first | (fail_if_success (with_reducible refine xstp ?_)); first | ((with_reducible refine And.intro (fun (hb : _ = true) => ?_) (fun (hb : _ = false) => ?_)) <;> replace hb := xnC hb <;> (try first | exact xfC | exact bff hb (by assumption) | exact bff (by assumption) hb)) | ((fail_if_success (with_reducible first | refine xgon ?_ | intro _)); (conv => whnf); (fail_if_success (fail_if_success (with_reducible first | refine xstp ?_ | refine xgon ?_ | intro _)))))
  refine cH42zjB1 (σ := []) (nl := []) (nseek 5) ?_
  rintro v h' ⟨rfl, rfl⟩ hcaps
  refine rH42zjB0 ?_
  repeat' (first | (fail_if_success (with_reducible refine xstp ?_)); first | ((with_reducible refine And.intro (fun (hb : _ = true) => ?_) (fun (hb : _ = false) => ?_)) <;> replace hb := xnC hb <;> (try first | exact xfC | exact bff hb (by assumption) | exact bff (by assumption) hb)) | ((fail_if_success (with_reducible first | refine xgon ?_ | intro _)); (conv => whnf); (fail_if_success (fail_if_success (with_reducible first | refine xstp ?_ | refine xgon ?_ | intro _)))))
  refine cH42zjB1 (σ := []) (nl := []) (nnow) ?_
  rintro v h' ⟨rfl, rfl⟩ hcaps
  refine rH42zjB0 ?_
  repeat' (first | (fail_if_success (with_reducible refine xstp ?_)); first | ((fail_if_success (with_reducible first | refine xgon ?_ | intro _)); (conv => whnf); (fail_if_success (fail_if_success (with_reducible first | refine xstp ?_ | refine xgon ?_ | intro _)))))
  exact FinK.mk ⟨[], _, _, ⟨rfl, rfl⟩, by (repeat' first | refine And.intro ?_ ?_ | exact xeC | fail)⟩
set_option maxRecDepth 10000 in
set_option maxHeartbeats 8000000 in
theorem rread (s : List UInt8) (hl : s.length ≤ 100000) (l : List Rc) (e e2 : Nat) (h1 : bgE s = e) (h2 : allB s = (l, e2)) :
    Ctr Tryz.prog 44 [.c (.s (mkS s))] []
      fun v h => (e ≠ 0 ∧ v = .t [.c .nils, .c (.i .i64 (e : Nat))] ∧ h = []) ∨
        (e = 0 ∧ ∃ c, v = .t [.c (.sl 0 0 3 0 l.length c), .c (.i .i64 (e2 : Nat))] ∧ h = [.one (rcR true l c)]) := by
  have k := fun (X : List Er) c (h0 : bgE s = 0) => cAllR (bgO s) X c (BOk.of h0 (by omega)) (by rw [show (bgO s).s = s by simp only [bgO]]; exact hl)
  have ho := cOpenRef s (by omega)
  have h3 : readB (bgO s) [] 0 1099511627777 = (l, e2) := h2
  rw [h3] at k
  rw [h1] at k ho
  clear h1 h2 h3
  generalize bgO s = b at *
  refine Ctr.mk' tbv mixed Tryz.func44 rfl rfl rfl (fun _ _ => by kernel_rfl) (by kernel_rfl) (by rfl) (by rfl) (by (repeat' first | refine And.intro ?_ ?_ | exact xeC | fail) <;> exact xmT) ?_
  repeat' (first | (fail_if_success (with_reducible refine xstp ?_)); first | (with_reducible intro hc; (try simp only [capsP, and_true] at hc); (try exact xfC)) | ((fail_if_success (with_reducible first | refine xgon ?_ | intro _)); (conv => whnf); (fail_if_success (fail_if_success (with_reducible first | refine xstp ?_ | refine xgon ?_ | intro _)))))
  refine cH42zjB1 (σ := []) (nl := []) (ho) ?_
  rintro v h' (⟨he, rfl, rfl⟩ | ⟨he, X, c, hX, rfl, rfl⟩) hcaps
  · refine rH42zjB0 ?_
    repeat' (first | (fail_if_success (with_reducible refine xstp ?_)); first | ((with_reducible refine And.intro (fun (hb : _ = true) => ?_) (fun (hb : _ = false) => ?_)) <;> replace hb := xnC hb <;> (try first | exact xfC | exact bff hb (by assumption) | exact bff (by assumption) hb)) | ((fail_if_success (with_reducible first | refine xgon ?_ | intro _)); (conv => whnf); (fail_if_success (fail_if_success (with_reducible first | refine xstp ?_ | refine xgon ?_ | intro _)))))
    exact FinK.mk ⟨[], _, _, .inl ⟨he, rfl, rfl⟩, by (repeat' first | refine And.intro ?_ ?_ | exact xeC | fail)⟩
  · refine rH42zjB0 ?_
    repeat' (first | (fail_if_success (with_reducible refine xstp ?_)); first | ((with_reducible refine And.intro (fun (hb : _ = true) => ?_) (fun (hb : _ = false) => ?_)) <;> replace hb := xnC hb <;> (try first | exact xfC | exact bff hb (by assumption) | exact bff (by assumption) hb)) | ((fail_if_success (with_reducible first | refine xgon ?_ | intro _)); (conv => whnf); (fail_if_success (fail_if_success (with_reducible first | refine xstp ?_ | refine xgon ?_ | intro _)))))
    refine cH42zjB1 (σ := [.whole 0, .whole 1, .whole 2]) (nl := []) (k X c he hX) ?_ (hle := by (repeat' first | refine And.intro ?_ ?_ | exact xeC | fail) <;> exact xmT)
    rintro v h' ⟨c3, rfl, rfl⟩ hcaps
    refine rH42zjB0 ?_
    repeat' (first | (fail_if_success (with_reducible refine xstp ?_)); first | ((fail_if_success (with_reducible first | refine xgon ?_ | intro _)); (conv => whnf); (fail_if_success (fail_if_success (with_reducible first | refine xstp ?_ | refine xgon ?_ | intro _)))))
    refine FinK.mk ⟨[3], _, _, .inr ⟨he, c3, rfl, rfl⟩, ?_⟩
    (repeat' first | refine And.intro ?_ ?_ | exact xeC | fail)
set_option maxRecDepth 10000 in
theorem ropen (s : List UInt8) (hl : s.length ≤ 100000) (l : List Rc) (e e2 : Nat) (h1 : bgE s = e) (h2 : allB s = (l, e2)) :
    Ctr Tryz.prog 29 [.c (.s (mkS s))] []
      fun v h => (e ≠ 0 ∧ v = .t [.c .nils, .c (.i .i64 (e : Nat))] ∧ h = []) ∨
        (e = 0 ∧ ∃ c, v = .t [.c (.sl 0 0 3 0 l.length c), .c (.i .i64 (e2 : Nat))] ∧ h = [.one (rcR true l c)]) := by
  have k := rread s hl l e e2 h1 h2
  clear h1 h2
  refine Ctr.mk' tbv mixed Tryz.func29 rfl rfl rfl (fun _ _ => by kernel_rfl) (by kernel_rfl) (by rfl) (by rfl) (by (repeat' first | refine And.intro ?_ ?_ | exact xeC | fail)) ?_
  repeat' (first | (fail_if_success (with_reducible refine xstp ?_)); first | (with_reducible intro hc; (try simp only [capsP, and_true] at hc); (try exact xfC)) | ((fail_if_success (with_reducible first | refine xgon ?_ | intro _)); (conv => whnf); (fail_if_success (fail_if_success (with_reducible first | refine xstp ?_ | refine xgon ?_ | intro _)))))
  refine cH42zjB1 (σ := []) (nl := []) (k) ?_
  rintro v h' (⟨he, rfl, rfl⟩ | ⟨he, c, rfl, rfl⟩) hcaps
  · refine rH42zjB0 ?_
    repeat' (first | (fail_if_success (with_reducible refine xstp ?_)); first | ((fail_if_success (with_reducible first | refine xgon ?_ | intro _)); (conv => whnf); (fail_if_success (fail_if_success (with_reducible first | refine xstp ?_ | refine xgon ?_ | intro _)))))
    exact FinK.mk ⟨[], _, _, .inl ⟨he, rfl, rfl⟩, by (repeat' first | refine And.intro ?_ ?_ | exact xeC | fail)⟩
  · refine rH42zjB0 ?_
    repeat' (first | (fail_if_success (with_reducible refine xstp ?_)); first | ((fail_if_success (with_reducible first | refine xgon ?_ | intro _)); (conv => whnf); (fail_if_success (fail_if_success (with_reducible first | refine xstp ?_ | refine xgon ?_ | intro _)))))
    refine FinK.mk ⟨[0], _, _, .inr ⟨he, c, rfl, rfl⟩, ?_⟩
    (repeat' first | refine And.intro ?_ ?_ | exact xeC | fail)
theorem chk_e {e : Nat} (l : List Rc) (e2 : Nat) (h : e ≠ 0) : chk e l e2 = e := if_pos h
theorem chk_e2 (l : List Rc) {e2 : Nat} (h : e2 ≠ 0) : chk 0 l e2 = e2 := by unfold chk; rw [if_neg (by decide), if_pos h]
set_option maxRecDepth 10000 in
set_option maxHeartbeats 16000000 in
theorem lrejects (s : List UInt8) (hl : s.length ≤ 140737488355328) :
    Ctr Tryz.prog 7 [.c (.s (mkS s))] [] fun v h => v = .c .tt ∧ h = [] := by
  have z : (mkS s).size = s.length := rfl
  refine Ctr.mk' tbv mixed Tryz.func7 rfl rfl rfl (fun _ _ => by kernel_rfl) (by kernel_rfl) (by rfl) (by rfl) (by (repeat' first | refine And.intro ?_ ?_ | exact xeC | fail)) ?_
  repeat' (first | (fail_if_success (with_reducible refine xstp ?_)); first | ((with_reducible refine And.intro (fun (hb : _ = true) => ?_) (fun (hb : _ = false) => ?_)) <;> replace hb := xnC hb <;> (try first | exact xfC | exact bff hb (by assumption) | exact bff (by assumption) hb)) | (with_reducible intro hc; (try simp only [capsP, and_true] at hc); (try exact xfC)) | ((fail_if_success (with_reducible first | refine xgon ?_ | intro _)); (conv => whnf); (fail_if_success (fail_if_success (with_reducible first | refine xstp ?_ | refine xgon ?_ | intro _)))))
  · skip
    refine cH42zjB1 (σ := []) (nl := []) (cawake42) ?_
    rintro v h' ⟨rfl, rfl⟩ hcaps
    refine rH42zjB0 ?_
    repeat' (first | (fail_if_success (with_reducible refine xstp ?_)); first | ((fail_if_success (with_reducible first | refine xgon ?_ | intro _)); (conv => whnf); (fail_if_success (fail_if_success (with_reducible first | refine xstp ?_ | refine xgon ?_ | intro _)))))
    exact FinK.mk ⟨[], _, _, ⟨rfl, rfl⟩, by (repeat' first | refine And.intro ?_ ?_ | exact xeC | fail)⟩
  have hl2 : s.length ≤ 2000 := by omega
  refine cH42zjB1 (σ := []) (nl := []) (cnobody (mkS s)) ?_
  rintro v h' ⟨rfl, rfl⟩ hcaps
  refine rH42zjB0 ?_
  repeat' (first | (fail_if_success (with_reducible refine xstp ?_)); first | ((fail_if_success (with_reducible first | refine xgon ?_ | intro _)); (conv => whnf); (fail_if_success (fail_if_success (with_reducible first | refine xstp ?_ | refine xgon ?_ | intro _)))))
  generalize he : bgE s = e
  rcases hA : allB s with ⟨l, e2⟩
  have hsh : e = 0 → shortL l := fun h0 => by
    have := all_short hl2 (by rw [he, h0])
    rw [hA] at this
    exact this
  have k1 := ropen s (by omega) l e e2 he hA
  have k2 := creplay ⟨0, 0⟩ s (by omega) l e e2 he hA (by decide) (by decide) hsh
  have k3 := cnew s (by omega) l e e2 he hA
  have k4 := cinputs s (by omega) l e e2 he hA hsh
  clear hA he
  by_cases h0 : e = 0
  · subst h0
    by_cases h2 : e2 = 0
    · subst h2
      generalize rplS ⟨0, 0⟩ 0 l 0 = r at *
      generalize chk 0 l 0 = q at *
      refine cH42zjB1 (σ := []) (nl := []) (k1) ?_
      rintro v h' (⟨q, _⟩ | ⟨_, c1, rfl, rfl⟩) hcaps
      · exact absurd rfl q
      refine rH42zjB0 ?_
      repeat' (first | (fail_if_success (with_reducible refine xstp ?_)); first | ((fail_if_success (with_reducible first | refine xgon ?_ | intro _)); (conv => whnf); (fail_if_success (fail_if_success (with_reducible first | refine xstp ?_ | refine xgon ?_ | intro _)))))
      refine cH42zjB1 (σ := [.whole 1]) (nl := []) (k2) ?_
      rintro v h' ⟨m', rfl, rfl⟩ hcaps
      refine rH42zjB0 ?_
      repeat' (first | (fail_if_success (with_reducible refine xstp ?_)); first | ((fail_if_success (with_reducible first | refine xgon ?_ | intro _)); (conv => whnf); (fail_if_success (fail_if_success (with_reducible first | refine xstp ?_ | refine xgon ?_ | intro _)))))
      refine cH42zjB1 (σ := []) (nl := []) (k3) ?_
      rintro v h' (⟨q, _⟩ | ⟨_, q, _⟩ | ⟨_, _, c2, rfl, rfl⟩) hcaps
      · exact absurd rfl q
      · exact absurd rfl q
      refine rH42zjB0 ?_
      repeat' (first | (fail_if_success (with_reducible refine xstp ?_)); first | ((fail_if_success (with_reducible first | refine xgon ?_ | intro _)); (conv => whnf); (fail_if_success (fail_if_success (with_reducible first | refine xstp ?_ | refine xgon ?_ | intro _)))))
      refine cH42zjB1 (σ := []) (nl := []) (k4) ?_
      rintro v h' (⟨_, rfl, rfl⟩ | ⟨_, _, c3, rfl, rfl⟩) hcaps
      · refine rH42zjB0 ?_
        repeat' (first | (fail_if_success (with_reducible refine xstp ?_)); first | ((with_reducible refine And.intro (fun (hb : _ = true) => ?_) (fun (hb : _ = false) => ?_)) <;> replace hb := xnC hb <;> (try first | exact xfC | exact bff hb (by assumption) | exact bff (by assumption) hb)) | ((fail_if_success (with_reducible first | refine xgon ?_ | intro _)); (conv => whnf); (fail_if_success (fail_if_success (with_reducible first | refine xstp ?_ | refine xgon ?_ | intro _)))))
        refine cH42zjB1 (σ := []) (nl := []) (cawake42) ?_
        rintro v h' ⟨rfl, rfl⟩ hcaps
        refine rH42zjB0 ?_
        repeat' (first | (fail_if_success (with_reducible refine xstp ?_)); first | ((fail_if_success (with_reducible first | refine xgon ?_ | intro _)); (conv => whnf); (fail_if_success (fail_if_success (with_reducible first | refine xstp ?_ | refine xgon ?_ | intro _)))))
        exact FinK.mk ⟨[], _, _, ⟨rfl, rfl⟩, by (repeat' first | refine And.intro ?_ ?_ | exact xeC | fail)⟩
      · refine rH42zjB0 ?_
        repeat' (first | (fail_if_success (with_reducible refine xstp ?_)); first | ((with_reducible refine And.intro (fun (hb : _ = true) => ?_) (fun (hb : _ = false) => ?_)) <;> replace hb := xnC hb <;> (try first | exact xfC | exact bff hb (by assumption) | exact bff (by assumption) hb)) | ((fail_if_success (with_reducible first | refine xgon ?_ | intro _)); (conv => whnf); (fail_if_success (fail_if_success (with_reducible first | refine xstp ?_ | refine xgon ?_ | intro _)))))
        refine cH42zjB1 (σ := []) (nl := []) (cawake42) ?_
        rintro v h' ⟨rfl, rfl⟩ hcaps
        refine rH42zjB0 ?_
        repeat' (first | (fail_if_success (with_reducible refine xstp ?_)); first | ((fail_if_success (with_reducible first | refine xgon ?_ | intro _)); (conv => whnf); (fail_if_success (fail_if_success (with_reducible first | refine xstp ?_ | refine xgon ?_ | intro _)))))
        exact FinK.mk ⟨[], _, _, ⟨rfl, rfl⟩, by (repeat' first | refine And.intro ?_ ?_ | exact xeC | fail)⟩
    · rw [chk_e2 l h2] at k4
      rw [show rplS ⟨0, 0⟩ 0 l e2 = (0, e2) by unfold rplS; rw [chk_e2 l h2, if_pos h2]] at k2
      refine cH42zjB1 (σ := []) (nl := []) (k1) ?_
      rintro v h' (⟨q, _⟩ | ⟨_, c1, rfl, rfl⟩) hcaps
      · exact absurd rfl q
      refine rH42zjB0 ?_
      repeat' (first | (fail_if_success (with_reducible refine xstp ?_)); first | ((fail_if_success (with_reducible first | refine xgon ?_ | intro _)); (conv => whnf); (fail_if_success (fail_if_success (with_reducible first | refine xstp ?_ | refine xgon ?_ | intro _)))))
      refine cH42zjB1 (σ := [.whole 1]) (nl := []) (k2) ?_
      rintro v h' ⟨m', rfl, rfl⟩ hcaps
      refine rH42zjB0 ?_
      repeat' (first | (fail_if_success (with_reducible refine xstp ?_)); first | ((fail_if_success (with_reducible first | refine xgon ?_ | intro _)); (conv => whnf); (fail_if_success (fail_if_success (with_reducible first | refine xstp ?_ | refine xgon ?_ | intro _)))))
      refine cH42zjB1 (σ := []) (nl := []) (k3) ?_
      rintro v h' (⟨q, _⟩ | ⟨_, _, rfl, rfl⟩ | ⟨_, q, _⟩) hcaps
      · exact absurd rfl q
      rotate_left 1
      · exact absurd q h2
      refine rH42zjB0 ?_
      repeat' (first | (fail_if_success (with_reducible refine xstp ?_)); first | ((fail_if_success (with_reducible first | refine xgon ?_ | intro _)); (conv => whnf); (fail_if_success (fail_if_success (with_reducible first | refine xstp ?_ | refine xgon ?_ | intro _)))))
      refine cH42zjB1 (σ := []) (nl := []) (k4) ?_
      rintro v h' (⟨_, rfl, rfl⟩ | ⟨q, _⟩) hcaps
      rotate_left 1
      · exact absurd q h2
      refine rH42zjB0 ?_
      repeat' (first | (fail_if_success (with_reducible refine xstp ?_)); first | ((with_reducible refine And.intro (fun (hb : _ = true) => ?_) (fun (hb : _ = false) => ?_)) <;> replace hb := xnC hb <;> (try first | exact xfC | exact bff hb (by assumption) | exact bff (by assumption) hb)) | ((fail_if_success (with_reducible first | refine xgon ?_ | intro _)); (conv => whnf); (fail_if_success (fail_if_success (with_reducible first | refine xstp ?_ | refine xgon ?_ | intro _)))))
      refine cH42zjB1 (σ := []) (nl := []) (cawake42) ?_
      rintro v h' ⟨rfl, rfl⟩ hcaps
      refine rH42zjB0 ?_
      repeat' (first | (fail_if_success (with_reducible refine xstp ?_)); first | ((fail_if_success (with_reducible first | refine xgon ?_ | intro _)); (conv => whnf); (fail_if_success (fail_if_success (with_reducible first | refine xstp ?_ | refine xgon ?_ | intro _)))))
      exact FinK.mk ⟨[], _, _, ⟨rfl, rfl⟩, by (repeat' first | refine And.intro ?_ ?_ | exact xeC | fail)⟩
  · rw [chk_e l e2 h0] at k4
    rw [show rplS ⟨0, 0⟩ e l e2 = (0, e) by unfold rplS; rw [chk_e l e2 h0, if_pos h0]] at k2
    refine cH42zjB1 (σ := []) (nl := []) (k1) ?_
    rintro v h' (⟨_, rfl, rfl⟩ | ⟨q, _⟩) hcaps
    rotate_left 1
    · exact absurd q h0
    refine rH42zjB0 ?_
    repeat' (first | (fail_if_success (with_reducible refine xstp ?_)); first | ((fail_if_success (with_reducible first | refine xgon ?_ | intro _)); (conv => whnf); (fail_if_success (fail_if_success (with_reducible first | refine xstp ?_ | refine xgon ?_ | intro _)))))
    refine cH42zjB1 (σ := [.whole 0]) (nl := []) (k2) ?_
    rintro v h' ⟨m', rfl, rfl⟩ hcaps
    refine rH42zjB0 ?_
    repeat' (first | (fail_if_success (with_reducible refine xstp ?_)); first | ((fail_if_success (with_reducible first | refine xgon ?_ | intro _)); (conv => whnf); (fail_if_success (fail_if_success (with_reducible first | refine xstp ?_ | refine xgon ?_ | intro _)))))
    refine cH42zjB1 (σ := []) (nl := []) (k3) ?_
    rintro v h' (⟨_, rfl, rfl⟩ | ⟨q, _⟩ | ⟨q, _⟩) hcaps
    rotate_left 1
    · exact absurd q h0
    · exact absurd q h0
    refine rH42zjB0 ?_
    repeat' (first | (fail_if_success (with_reducible refine xstp ?_)); first | ((fail_if_success (with_reducible first | refine xgon ?_ | intro _)); (conv => whnf); (fail_if_success (fail_if_success (with_reducible first | refine xstp ?_ | refine xgon ?_ | intro _)))))
    refine cH42zjB1 (σ := []) (nl := []) (k4) ?_
    rintro v h' (⟨_, rfl, rfl⟩ | ⟨q, _⟩) hcaps
    rotate_left 1
    · exact absurd q h0
    refine rH42zjB0 ?_
    repeat' (first | (fail_if_success (with_reducible refine xstp ?_)); first | ((with_reducible refine And.intro (fun (hb : _ = true) => ?_) (fun (hb : _ = false) => ?_)) <;> replace hb := xnC hb <;> (try first | exact xfC | exact bff hb (by assumption) | exact bff (by assumption) hb)) | ((fail_if_success (with_reducible first | refine xgon ?_ | intro _)); (conv => whnf); (fail_if_success (fail_if_success (with_reducible first | refine xstp ?_ | refine xgon ?_ | intro _)))))
    refine cH42zjB1 (σ := []) (nl := []) (cawake42) ?_
    rintro v h' ⟨rfl, rfl⟩ hcaps
    refine rH42zjB0 ?_
    repeat' (first | (fail_if_success (with_reducible refine xstp ?_)); first | ((fail_if_success (with_reducible first | refine xgon ?_ | intro _)); (conv => whnf); (fail_if_success (fail_if_success (with_reducible first | refine xstp ?_ | refine xgon ?_ | intro _)))))
    exact FinK.mk ⟨[], _, _, ⟨rfl, rfl⟩, by (repeat' first | refine And.intro ?_ ?_ | exact xeC | fail)⟩
end Go.Proofs.YtenompgpjlbelaaGreatDoor


namespace Go.Proofs.YtenompgpjlbelaaGreatDoor
open Go.X Go.RowKit
set_option linter.unusedVariables false
theorem nil_read (β : Nm) (W : World) : Fits β [] W ∧ ∀ f x, (Go.X.get [] f x).owned = false := by
  have h : ∀ f x, Go.X.get [] f x = .no := fun f x => by simp [Go.X.get]
  have hno : ∀ f x, (Go.X.get [] f x).owned = false := fun f x => by rw [h]; rfl
  exact ⟨fits_read (fun f x => by rw [h]; trivial) hno, hno⟩
theorem walk_PlayerRejects (W : World) (a0 : ByteArray) (s0 : a0.size ≤ 140737488351232) :
    Calls Tryz.prog 7 #[.string a0] W fun e W' => e = .returned (.bool true) ∧ Below W.heap.size W W' := by
  obtain ⟨hf, hno⟩ := nil_read (fun _ _ => (0, 0, .nil)) W
  have := glue ((lrejects a0.data.toList (by rw [P4.size_len]; omega)).mono' fun v h q => q.1) hf hno
  rw [mkS_of] at this
  simp only [List.map_cons, List.map_nil, T.ren] at this
  exact this
end Go.Proofs.YtenompgpjlbelaaGreatDoor

