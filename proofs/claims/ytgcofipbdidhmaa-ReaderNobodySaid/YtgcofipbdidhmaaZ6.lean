/- Part 6 of the texts that a walk of this program rests on: an abstract machine, its soundness, contracts of functions. No statement of the seat is proved in this file. -/
import Derived.Test.YtgcofipbdidhmaaZ5
namespace Go.Proofs.Ytgcofipbdidhmaa
open Go.X
set_option linter.unusedVariables false

/-- A reader of one reliable writer. -/
def RJs (r : Rs) : Rd := ⟨r.l, r.ls, [(0, 1)], 1, fun y => if y = 1 then some ⟨3, r.ex, true, r.W, r.ck⟩ else none⟩
theorem RJs_ok (r : Rs) : RdOk (RJs r) where
  a := fun i hi => by
    have : i = 0 := by simp [RJs] at hi; exact hi
    subst this
    exact ⟨by simp [RJs], _, rfl⟩
  b := fun x m h => by
    by_cases hx : x = 1
    · subst hx
      exact ⟨0, by simp [RJs], by simp [RJs], Nat.le_refl _⟩
    · simp [RJs, hx] at h
theorem RJs_I {r : Rs} {B : Nat} (h : RsI r B) : RdI (RJs r) B := by
  refine ⟨RJs_ok r, fun x m hm => ?_, h.l, h.ls⟩
  by_cases hx : x = 1
  · simp [RJs, hx] at hm
    subst hm
    exact ⟨h.ok, h.lo, h.hi, fun e => by cases e⟩
  · simp [RJs, hx] at hm
theorem St_I {smp : Int → Smp} {N : Int} {S : Int → Bool} {r : Rs} (h : Src smp N) (hs : Pre smp N S r) : RsI r 0 := by
  have := h.hN
  have := hs.lo
  have := hs.hi
  refine ⟨hs.ok, hs.lo, by omega, ?_, by rw [hs.ls]; simp⟩
  rw [hs.l]
  simp only [List.length_map, List.length_range]
  omega
theorem RJs_get (r : Rs) : (RJs r).get 1 = some ⟨3, r.ex, true, r.W, r.ck⟩ := rfl
theorem RJs_E {x : Pkt} {r : Rs} (hw : x.w = 1) (hx : checkP x = 0) : recvE x (RJs r) = 0 := by
  unfold recvE
  rw [hw, RJs_get]
  exact hx
theorem RJs_R {x : Pkt} {r : Rs} (hw : x.w = 1) (hx : checkP x = 0) : recvR relQ x (RJs r) = RJs (stepF relQ x ⟨3, r.ex, true, r.W, r.ck⟩ r) := by
  unfold recvR
  rw [hw, RJs_get]
  simp only [if_pos hx]
  show Rd.mk _ _ _ _ _ = Rd.mk _ _ _ _ _
  congr 1
  funext y
  show (if y = 1 then _ else if y = 1 then _ else _) = (if y = 1 then _ else _)
  split <;> rfl
theorem step_data {x : Pkt} {r : Rs} {m : Mx} (hw : x.w = 1) (hk : x.k = 1) (hm : m.rel = true) : stepF relQ x m r = dataF relQ 1 true x r := by
  unfold stepF
  rw [if_pos hk, hw, hm]
theorem RJs_A1 {x : Pkt} {r : Rs} {id at' : Int} (hk : x.k = 1) : recvA id relQ x at' (RJs r) = none := by
  unfold recvA
  cases (RJs r).get x.w with
  | none => rfl
  | some m => exact if_neg (fun h => by omega)
theorem RJ_0 : RdJ relQ = RJs ⟨[], [], 1, [], 0⟩ := rfl
theorem St_0 {smp : Int → Smp} {N : Int} (h : Src smp N) : St smp N (fun _ => false) ⟨[], [], 1, [], 0⟩ := by
  have := h.hN
  refine ⟨⟨rfl, rfl, fun n => by simp [wget], fun n a b => (by simp only at b; omega), fun n hn => by simp at hn, Int.le_refl _, (by simp only; omega), nil_ok _⟩, rfl⟩

/-! ### What is missing -/
def genK (P : Int → Bool) (a : Int) (k : Nat) : List Int := ((List.range k).map fun (i : Nat) => a + (i : Int)).filter P
theorem gen_succ (P : Int → Bool) (a : Int) (k : Nat) : genK P a (k + 1) = genK P a k ++ if P (a + k) then [a + (k : Int)] else [] := by
  unfold genK
  rw [List.range_succ, List.map_append, List.filter_append]
  congr 1
  simp only [List.map_cons, List.map_nil, List.filter_cons, List.filter_nil]
theorem gen_pre (P : Int → Bool) (a : Int) (k m : Nat) : ∃ t, genK P a (k + m) = genK P a k ++ t := by
  induction m with
  | zero => exact ⟨[], by simp⟩
  | succ m ih =>
    obtain ⟨t, ht⟩ := ih
    exact ⟨_, by rw [← Nat.add_assoc, gen_succ, ht, List.append_assoc]⟩
theorem gen_end {P : Int → Bool} {a : Int} {k K : Nat} (hk : k ≤ K) (h1 : (genK P a k).length ≤ 32) (h2 : k = K ∨ 32 ≤ (genK P a k).length) : (genK P a K).take 32 = genK P a k := by
  rcases h2 with rfl | h2
  · exact List.take_of_length_le h1
  · obtain ⟨m, hm⟩ : ∃ m, K = k + m := ⟨_, (Nat.add_sub_cancel' hk).symm⟩
    obtain ⟨t, ht⟩ := gen_pre P a k m
    rw [hm, ht]
    exact List.take_left' (by omega)
theorem gen_split (P : Int → Bool) (a : Int) (j k : Nat) : genK P a (j + k) = genK P a j ++ genK P (a + j) k := by
  induction k with
  | zero => simp [genK]
  | succ k ih =>
    rw [← Nat.add_assoc, gen_succ, ih, gen_succ, List.append_assoc]
    have : a + ((j + k : Nat) : Int) = a + (j : Int) + (k : Int) := by omega
    rw [this]
theorem gen_nil {P : Int → Bool} {a : Int} {k : Nat} (h : ∀ i : Nat, i < k → P (a + i) = false) : genK P a k = [] := by
  unfold genK
  rw [List.filter_eq_nil_iff]
  intro x hx
  obtain ⟨i, hi, rfl⟩ := List.mem_map.1 hx
  simp [h i (List.mem_range.1 hi)]
theorem gen_congr {P Q : Int → Bool} {a : Int} {k : Nat} (h : ∀ i : Nat, i < k → P (a + i) = Q (a + i)) : genK P a k = genK Q a k := by
  unfold genK
  apply List.filter_congr
  intro x hx
  obtain ⟨i, hi, rfl⟩ := List.mem_map.1 hx
  exact h i (List.mem_range.1 hi)

theorem miss_St {smp : Int → Smp} {N : Int} {S : Int → Bool} {r : Rs} (hs : St smp N S r) {top : Int} (h0 : 0 ≤ top) : missF r top = (genK (fun n => !S n) 1 top.toNat).take 32 := by
  have hlo := hs.lo
  have hu : ∀ n, r.ex ≤ n → unk r.W n = !S n := by
    intro n hn
    have hW := hs.W n
    unfold unk
    cases hS : S n with
    | true =>
      rw [hS, if_pos ⟨rfl, hn⟩] at hW
      refine decide_eq_false fun h => ?_
      rw [get_open.1 h] at hW
      cases hW
    | false =>
      rw [hS, if_neg (fun h => by cases h.1)] at hW
      exact decide_eq_true (get_open.2 hW)
  have e1 : missF r top = (genK (unk r.W) r.ex (top - r.ex + 1).toNat).take 32 := rfl
  rw [e1]
  congr 1
  by_cases ht : r.ex ≤ top + 1
  · have e2 : top.toNat = (r.ex - 1).toNat + (top - r.ex + 1).toNat := by omega
    rw [e2, gen_split, gen_nil (k := (r.ex - 1).toNat), List.nil_append]
    · have e3 : 1 + (((r.ex - 1).toNat : Nat) : Int) = r.ex := by omega
      rw [e3]
      exact gen_congr fun i _ => hu _ (by omega)
    · intro i hi
      have := hs.below (1 + (i : Int)) (by omega) (by omega)
      simp [this]
  · rw [show (top - r.ex + 1).toNat = 0 by omega, gen_nil (k := top.toNat)]
    · rfl
    · intro i hi
      have := hs.below (1 + (i : Int)) (by omega) (by omega)
      simp [this]

/-! ### The heartbeat of ReaderAsks -/
def hbT (top : Int) : Pkt := ⟨2, 0, 0, 1, 0, 0, 1, top, 0, ⟨#[]⟩⟩
theorem hbT_ok {top : Int} (h : 0 ≤ top ∧ top ≤ 200) : checkP (hbT top) = 0 := by
  unfold checkP okN hbT
  rw [if_neg (by show ¬ (2 : Int) = 1; omega), if_neg (by show ¬ (2 : Int) = 4; omega), if_pos rfl, if_pos (by simp only; omega)]
theorem hbT_R {top : Int} {r : Rs} (h : 0 ≤ top ∧ top ≤ 200) (h1 : 1 ≤ r.ex) : recvR relQ (hbT top) (RJs r) = RJs r := by
  rw [RJs_R rfl (hbT_ok h)]
  have : stepF relQ (hbT top) ⟨3, r.ex, true, r.W, r.ck⟩ r = r := by
    unfold stepF hbF
    rw [if_neg (by show ¬ (2 : Int) = 1; omega), if_neg (by show ¬ (2 : Int) = 4; omega), if_neg (by simp), if_neg (by show ¬ r.ex < 1; omega)]
  rw [this]
theorem hbT_A {top : Int} {r : Rs} {at' : Int} (h : 0 ≤ top ∧ top ≤ 200) (h1 : 1 ≤ r.ex) : recvA 9 relQ (hbT top) at' (RJs r) = some (⟨3, 0, 3, 1, 9, 0, r.ex, top, at', ⟨#[]⟩⟩, missF r top) := by
  unfold recvA
  rw [show (RJs r).get (hbT top).w = some ⟨3, r.ex, true, r.W, r.ck⟩ from rfl]
  simp only
  rw [if_pos ⟨hbT_ok h, rfl, trivial⟩]
  have : hbF relQ (hbT top).w true (hbT top) ((RJs r).rs ⟨3, r.ex, true, r.W, r.ck⟩) = r := by
    unfold hbF
    rw [if_neg (by simp), if_neg (by show ¬ r.ex < 1; omega)]
    rfl
  rw [this]
  rfl
end Go.Proofs.Ytgcofipbdidhmaa
