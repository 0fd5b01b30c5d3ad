/- Part 5 of the texts that a walk of this program rests on: an abstract machine, its soundness, contracts of functions. No statement of the seat is proved in this file. -/
import Derived.Test.YtkjkbpnhocjenaaGreatZ4
import Derived.Shelf.Slices.CompactS
import Derived.Lib.RowBridge
namespace Go.Proofs.YtkjkbpnhocjenaaGreat
open Go.X
set_option linter.unusedSimpArgs false
set_option linter.unusedVariables false
open P4
open P5
/-- An entry with the capacities of its lists. -/
structure Ep where
  (e : En) (c1 c2 : Nat)
deriving Inhabited
def encEp (F G : Nat) (X : List Ep) (k : Nat) : List C := [.i .i64 ((X.getD k default).e.off : Nat), .i .i64 ((X.getD k default).e.fi : Nat), .i .i64 ((X.getD k default).e.la : Nat), .sl F k 1 0 (X.getD k default).e.T.length (X.getD k default).c1, .sl G k 1 0 (X.getD k default).e.T.length (X.getD k default).c2]
abbrev epR (F G : Nat) (X : List Ep) (c : Nat) : Ck := .row true true 105 5 X.length c (encEp F G X)
def tpC (y : Ep) : Ck := stR true (y.e.T.map Prod.fst) y.c1
def cnC (y : Ep) : Ck := ntR true (y.e.T.map Prod.snd) y.c2
theorem tpF : FlatR tpC := fun _ => ⟨_, _, _, _, _, _, rfl⟩
theorem cnF : FlatR cnC := fun _ => ⟨_, _, _, _, _, _, rfl⟩
abbrev tpG (X : List Ep) (k : Nat) : Ck := ixG tpC X k
abbrev cnG (X : List Ep) (k : Nat) : Ck := ixG cnC X k
theorem tpG_rk (σ : List Sg) (N : Nat) (X : List Ep) (x : Nat) : (tpG X x).rk σ N = tpG X x := ixG_rk tpF σ N X x
theorem cnG_rk (σ : List Sg) (N : Nat) (X : List Ep) (x : Nat) : (cnG X x).rk σ N = cnG X x := ixG_rk cnF σ N X x
theorem xmC2 {p : Prop} (h : p := by first | exact fun _ => trivial | exact fun x => ixG_le tpF | exact fun x => ixG_bel tpF | exact fun x => ixG_belR tpF | exact fun x => ixG_le cnF | exact fun x => ixG_bel cnF | exact fun x => ixG_belR cnF | fail) : p := h
theorem encEp_rk1 (a b d : Nat) (r : List Sg) (N : Nat) (X : List Ep) (i : Nat) : List.map (C.rk (Sg.whole a :: Sg.whole b :: Sg.whole d :: r) N) (encEp 1 2 X i) = encEp b d X i := rfl
theorem encEp_rk2 (o a b d : Nat) (r : List Sg) (N : Nat) (X : List Ep) (i : Nat) : List.map (C.rk (Sg.whole o :: Sg.whole a :: Sg.whole b :: Sg.whole d :: r) N) (encEp 2 3 X i) = encEp b d X i := rfl
theorem epApp {σ : List Sg} {F F' G G' P Q : Nat} {X : List Ep} {y : Ep} {g : Nat → List C} (hk : ∀ i, i ≠ X.length → key σ 0 F' i = (F, i)) (hn : key σ 0 F' X.length = (P, 0)) (hk2 : ∀ i, i ≠ X.length → key σ 0 G' i = (G, i)) (hn2 : key σ 0 G' X.length = (Q, 0))
    (hg : g 0 = [.i .i64 (y.e.off : Nat), .i .i64 (y.e.fi : Nat), .i .i64 (y.e.la : Nat), .sl P 0 1 0 y.e.T.length y.c1, .sl Q 0 1 0 y.e.T.length y.c2]) : ∀ i, i < (X ++ [y]).length → appF X.length (encEp F G X) 0 g i = List.map (C.rk σ 0) (encEp F' G' (X ++ [y]) i) := by
  intro i hi
  unfold appF
  by_cases h : i < X.length
  · rw [if_pos h]
    have e : (X ++ [y]).getD i default = X.getD i default := by simp [List.getD, List.getElem?_append_left h]
    simp only [encEp, List.map_cons, List.map_nil, C.rk, e, hk i (by omega), hk2 i (by omega)]
  · obtain rfl : i = X.length := by simp at hi; omega
    rw [if_neg h, Nat.sub_self, hg]
    have e : (X ++ [y]).getD X.length default = y := by simp [List.getD]
    simp only [encEp, List.map_cons, List.map_nil, C.rk, e, hn, hn2]
abbrev es (X : List Ep) : List En := X.map Ep.e
theorem es_snoc (X : List Ep) (y : Ep) : es (X ++ [y]) = es X ++ [y.e] := by simp [es]
structure TlI (s : ByteArray) (k0 a0 e0 k a e : Nat) (U : List Tl) : Prop where
  le : a ≤ s.size
  len : U.length ≤ a + (if e = 0 then 0 else 1)
  q : tlN s k0 a0 e0 = (U ++ (tlN s k a e).1, (tlN s k a e).2)
theorem tlN_stop {s : ByteArray} {k a e : Nat} (h : k = 0 ∨ e ≠ 0) : tlN s k a e = ([], a, e) := by
  cases k with
  | zero => rfl
  | succ k =>
    unfold tlN
    rw [if_neg (by rcases h with h | h; omega; exact h)]
abbrev tlT (s : ByteArray) (a : Nat) : List UInt8 × Nat × Nat := rdT s a 0 40
abbrev tlM (s : ByteArray) (a : Nat) : Nat × Nat × Nat := rdAt s (tlT s a).2.1 (tlT s a).2.2
theorem TlI.step {s : ByteArray} {k0 a0 e0 k a : Nat} {U : List Tl} (h : TlI s k0 a0 e0 (k + 1) a 0 U) : TlI s k0 a0 e0 k (tlM s a).2.1 (tlM s a).2.2 (U ++ [((tlT s a).1, (tlM s a).1)]) := by
  have h1 := rdT_mono (e := 0) (m := 40) h.le
  have h2 := rdS_mono (e := (tlT s a).2.2) (m := 1099511627776) h1.2
  have hn := h.len
  rw [if_pos rfl] at hn
  have e1 : (tlM s a).2.1 = (rdS s (rdT s a 0 40).2.1 (tlT s a).2.2 1099511627776).2.1 := rfl
  have e3 : (tlT s a).2.1 = (rdT s a 0 40).2.1 := rfl
  refine ⟨h2.2, ?_, ?_⟩
  · rw [List.length_append, List.length_singleton]
    by_cases hp : (tlM s a).2.2 = 0
    · have h3 := rdS_pos hp
      rw [if_pos hp]
      have e2 : (rdS s (tlT s a).2.1 (tlT s a).2.2 1099511627776).2.1 = (rdS s (rdT s a 0 40).2.1 (tlT s a).2.2 1099511627776).2.1 := rfl
      rw [e1]
      omega
    · rw [if_neg hp]
      have e2 : (rdS s (tlT s a).2.1 (tlT s a).2.2 1099511627776).2.1 = (rdS s (rdT s a 0 40).2.1 (tlT s a).2.2 1099511627776).2.1 := rfl
      rw [e1]
      omega
  · rw [h.q]
    conv => lhs; unfold tlN
    rw [if_pos rfl]
    simp only [List.append_assoc, List.cons_append, List.nil_append]
structure EnI (s : ByteArray) (n0 a0 e0 n a e : Nat) (L : List En) : Prop where
  le : a ≤ s.size
  len : L.length ≤ a + (if e = 0 then 0 else 1)
  q : enN s n0 a0 e0 = (L ++ (enN s n a e).1, (enN s n a e).2)
theorem enN_stop {s : ByteArray} {k a e : Nat} (h : k = 0 ∨ e ≠ 0) : enN s k a e = ([], a, e) := by
  cases k with
  | zero => rfl
  | succ k =>
    unfold enN
    rw [if_neg (by rcases h with h | h; omega; exact h)]
theorem rdAt_mono {s : ByteArray} {a e : Nat} (h : a ≤ s.size) : a ≤ (rdAt s a e).2.1 ∧ (rdAt s a e).2.1 ≤ s.size := rdS_mono h
theorem sm_mono {s : ByteArray} {a e : Nat} (h : a ≤ s.size) : (sm1 s a e).2.1 ≤ s.size ∧ (sm2 s a e).2.1 ≤ s.size ∧ (sm3 s a e).2.1 ≤ s.size ∧ (sm4 s a e).2.1 ≤ s.size ∧ a ≤ (sm4 s a e).2.1 := by
  have h1 := rdAt_mono (e := e) h
  have h2 := rdAt_mono (e := (sm1 s a e).2.2) h1.2
  have h3 := rdAt_mono (e := (sm2 s a e).2.2) h2.2
  have h4 := rdAt_mono (e := (sm3 s a e).2.2) h3.2
  unfold sm4 sm3 sm2 sm1 at *
  omega
theorem sm_pos {s : ByteArray} {a e : Nat} (h : (sm4 s a e).2.2 = 0) : a + 1 ≤ (sm4 s a e).2.1 := by
  have h4 := rdS_pos h
  have h3 := rdS_pos h4.1
  have h2 := rdS_pos h3.1
  have h1 := rdS_pos h2.1
  have : (rdS s (sm3 s a e).2.1 (sm3 s a e).2.2 1099511627776).2.1 = (sm4 s a e).2.1 := rfl
  have : (rdS s (sm2 s a e).2.1 (sm2 s a e).2.2 1099511627776).2.1 = (sm3 s a e).2.1 := rfl
  have : (rdS s (sm1 s a e).2.1 (sm1 s a e).2.2 1099511627776).2.1 = (sm2 s a e).2.1 := rfl
  have : (rdS s a e 1099511627776).2.1 = (sm1 s a e).2.1 := rfl
  omega
theorem tlN_mono {s : ByteArray} : ∀ (k a e : Nat), a ≤ s.size → a ≤ (tlN s k a e).2.1 ∧ (tlN s k a e).2.1 ≤ s.size ∧ ((tlN s k a e).2.2 = 0 → e = 0)
  | 0, a, e, h => ⟨Nat.le_refl _, h, id⟩
  | k + 1, a, e, h => by
    unfold tlN
    split
    · rename_i he
      subst he
      have h1 := rdT_mono (e := 0) (m := 40) h
      have h2 := rdAt_mono (e := (rdT s a 0 40).2.2) h1.2
      have h3 := tlN_mono k _ (rdAt s (rdT s a 0 40).2.1 (rdT s a 0 40).2.2).2.2 h2.2
      exact ⟨by simp only; omega, h3.2.1, fun _ => rfl⟩
    · exact ⟨Nat.le_refl _, h, id⟩
theorem EnI.step {s : ByteArray} {n0 a0 e0 n a : Nat} {L : List En} (h : EnI s n0 a0 e0 (n + 1) a 0 L) : EnI s n0 a0 e0 n (enT s a 0).2.1 (enT s a 0).2.2 (L ++ [rdEn s a 0]) := by
  have hm := sm_mono (e := 0) h.le
  have ht := tlN_mono (s := s) (sm4 s a 0).1 (sm4 s a 0).2.1 (sm4 s a 0).2.2 hm.2.2.2.1
  have hn := h.len
  rw [if_pos rfl] at hn
  have e1 : enT s a 0 = tlN s (sm4 s a 0).1 (sm4 s a 0).2.1 (sm4 s a 0).2.2 := rfl
  refine ⟨by rw [e1]; exact ht.2.1, ?_, ?_⟩
  · rw [List.length_append, List.length_singleton]
    by_cases hp : (enT s a 0).2.2 = 0
    · rw [if_pos hp, e1]
      have := sm_pos (ht.2.2 (by rw [← e1]; exact hp))
      omega
    · rw [if_neg hp, e1]
      omega
  · rw [h.q]
    conv => lhs; unfold enN
    rw [if_pos rfl]
    simp only [List.append_assoc, List.cons_append, List.nil_append]
theorem rH41zbK0 {σ : List Sg} {H h' : List Fam} {v : T} {K : T → List Fam → Prop} {H' : List Fam} {v' : T} {N : Nat} (hk : K v' H') (hN : H.length = N := by (try simp only [↓List.length_cons, ↓List.length_nil, Nat.reduceAdd]) <;> rfl) (h : givesF σ N H σ h' = some H' := by (try simp (maxSteps := 1000000) only [givesF, setF, updF, Fam.zeroth, Fam.rk, Ck.rk, C.rk, E.rk, T.rk, key, List.map_cons, List.map_nil, List.cons_append, List.nil_append, List.length_cons, List.length_nil, Option.map_some, Option.bind_some, Nat.reduceAdd, Nat.zero_add, Nat.add_zero, Nat.add_sub_cancel_left, Int.toNat_natCast, reps, List.all_cons, List.all_nil, C.flat, List.append_eq, Bool.not_true, Bool.and_true, Bool.or_false, Bool.or_self, Bool.not_false, List.append_nil, Bool.and_self, ↓tpG_rk, ↓cnG_rk]) <;> rfl) (hv : v.rk σ N = v' := by (try simp only [givesF, setF, updF, Fam.zeroth, Fam.rk, Ck.rk, C.rk, E.rk, T.rk, key, List.map_cons, List.map_nil, List.cons_append, List.nil_append, List.length_cons, List.length_nil, Option.map_some, Option.bind_some, Nat.reduceAdd, Nat.zero_add, Nat.add_zero, Nat.add_sub_cancel_left, Int.toNat_natCast, reps, List.all_cons, List.all_nil, C.flat, List.append_eq, Bool.not_true, Bool.and_true, Bool.or_false, Bool.or_self, Bool.not_false, List.append_nil, Bool.and_self, ↓tpG_rk, ↓cnG_rk]) <;> rfl) : RetG σ H h' v K := ret_mk3 hN h hv hk
theorem rH41zbK1 {σ : List Sg} {H h' : List Fam} {v : T} {K : T → List Fam → Prop} {H' : List Fam} {v' : T} {N : Nat} (hk : K v' H') (hN : H.length = N := by (try simp only [↓List.length_cons, ↓List.length_nil, Nat.reduceAdd]) <;> rfl) (h : givesF σ N H σ h' = some H' := by (try simp (maxSteps := 1000000) only [givesF, setF, updF, Fam.zeroth, Fam.rk, Ck.rk, C.rk, E.rk, T.rk, key, List.map_cons, List.map_nil, List.cons_append, List.nil_append, List.length_cons, List.length_nil, Option.map_some, Option.bind_some, Nat.reduceAdd, Nat.zero_add, Nat.add_zero, Nat.add_sub_cancel_left, Int.toNat_natCast, reps, List.all_cons, List.all_nil, C.flat, List.append_eq, Bool.not_true, Bool.and_true, Bool.or_false, Bool.or_self, Bool.not_false, List.append_nil, Bool.and_self, ↓tpG_rk, ↓cnG_rk, encEp_rk1]) <;> rfl) (hv : v.rk σ N = v' := by (try simp only [givesF, setF, updF, Fam.zeroth, Fam.rk, Ck.rk, C.rk, E.rk, T.rk, key, List.map_cons, List.map_nil, List.cons_append, List.nil_append, List.length_cons, List.length_nil, Option.map_some, Option.bind_some, Nat.reduceAdd, Nat.zero_add, Nat.add_zero, Nat.add_sub_cancel_left, Int.toNat_natCast, reps, List.all_cons, List.all_nil, C.flat, List.append_eq, Bool.not_true, Bool.and_true, Bool.or_false, Bool.or_self, Bool.not_false, List.append_nil, Bool.and_self, ↓tpG_rk, ↓cnG_rk, encEp_rk1]) <;> rfl) : RetG σ H h' v K := ret_mk3 hN h hv hk
theorem cH41zbK2 {P : Program} {F : Nat} {args : List T} {H : List Fam} {K : T → List Fam → Prop} {σ : List Sg} {nl : List Fam} {args0 : List T} {h0 : List Fam} {Q : T → List Fam → Prop} {H2 H1 : List Fam} {N n : Nat} (hc : Ctr P F args0 h0 Q) (hk : ∀ v h', Q v h' → capsP h' → RetG σ H2 h' v K) (hap : apart σ = true := by rfl) (hnl : nl.all nilB = true := by rfl) (h1 : H ++ nl = H1 := by first | exact List.append_nil _ | ((try simp only [List.cons_append, List.nil_append]) <;> rfl)) (hN : H1.length = N := by (try simp only [↓List.length_cons, ↓List.length_nil, Nat.reduceAdd]) <;> rfl) (hn : H.length = n := by (try simp only [↓List.length_cons, ↓List.length_nil, Nat.reduceAdd]) <;> rfl) (hH : givesF σ N H1 σ h0 = some H2 := by (try simp (maxSteps := 1000000) only [givesF, setF, updF, Fam.zeroth, Fam.rk, Ck.rk, C.rk, E.rk, T.rk, key, List.map_cons, List.map_nil, List.cons_append, List.nil_append, List.length_cons, List.length_nil, Option.map_some, Option.bind_some, Nat.reduceAdd, Nat.zero_add, Nat.add_zero, Nat.add_sub_cancel_left, Int.toNat_natCast, reps, List.all_cons, List.all_nil, C.flat, List.append_eq, Bool.not_true, Bool.and_true, Bool.or_false, Bool.or_self, Bool.not_false, List.append_nil, Bool.and_self, ↓tpG_rk, ↓cnG_rk]) <;> rfl) (hle : leS n H1 σ N σ h0 (belsK N (h0.map (Fam.rk σ N)) (argsK n args (args0.map (T.rk σ N)) True)) := by repeat' first | refine And.intro ?_ ?_ | exact xeC | fail) : CallK P F args H K := CallK.mk3 hc hap hnl h1 hN hn hH hle hk
set_option maxRecDepth 10000 in
set_option maxHeartbeats 8000000 in
theorem creadIndex (s : ByteArray) (hs : s.size ≤ 100000000) :
    Ctr Tryz.prog 45 [.c (.s s)] []
      fun v h => ∃ X c, es X = (ixL s).1 ∧ v = .t [.c (.sl 0 0 5 0 X.length c), .c (.b (ixL s).2)] ∧ h = [.one (epR 1 2 X c), .many (tpG X), .many (cnG X)] := by
  have hle := rdU_le (s := s) (a := 0) (e := 0) (Nat.zero_le _)
  refine Ctr.mk' tbv mixed Tryz.func45 rfl rfl rfl (fun _ _ => by kernel_rfl) (by kernel_rfl) (by rfl) (by rfl) (by (repeat' first | refine And.intro ?_ ?_ | exact xeC | fail)) ?_
  repeat' (first | (fail_if_success (with_reducible refine xstp ?_)); first | (with_reducible intro hc; (try simp only [capsP, and_true] at hc); (try exact xfC)) | ((fail_if_success (with_reducible first | refine xgon ?_ | intro _)); (conv => whnf); (fail_if_success (fail_if_success (with_reducible first | refine xstp ?_ | refine xgon ?_ | intro _)))))
  refine cH41zbK2 (σ := []) (nl := []) (cNew s) ?_
  rintro v h' ⟨rfl, rfl⟩ hcaps
  refine rH41zbK0 ?_
  repeat' (first | (fail_if_success (with_reducible refine xstp ?_)); first | ((fail_if_success (with_reducible first | refine xgon ?_ | intro _)); (conv => whnf); (fail_if_success (fail_if_success (with_reducible first | refine xstp ?_ | refine xgon ?_ | intro _)))))
  refine cH41zbK2 (σ := [.whole 0]) (nl := []) (crUint s 0 0 (Nat.zero_le _) (by omega)) ?_
  rintro v h' ⟨rfl, rfl⟩ hcaps
  refine rH41zbK0 ?_
  repeat' (first | (fail_if_success (with_reducible refine xstp ?_)); first | ((with_reducible refine And.intro (fun (hb : _ = true) => ?_) (fun (hb : _ = false) => ?_)) <;> replace hb := xnC hb <;> (try first | exact xfC | exact bff hb (by assumption) | exact bff (by assumption) hb)) | ((fail_if_success (with_reducible first | refine xgon ?_ | intro _)); (conv => whnf); (fail_if_success (fail_if_success (with_reducible first | refine xstp ?_ | refine xgon ?_ | intro _)))))
  · have hI : ixL s = ([], false) := if_neg (by omega)
    rw [hI]
    refine FinK.mk ⟨[99, 98, 97], _, _, ⟨[], 0, rfl, rfl, rfl⟩, ?_⟩
    (repeat' first | refine And.intro ?_ ?_ | exact xeC | fail)
    all_goals first
      | exact xmC2
      | exact fun x => if_neg (Nat.not_lt_zero x)
      | skip
  have h2 : (rdU s 0 0).1 = 2 := by omega
  have hm1 := rdAt_mono (e := (rdU s 0 0).2.2) hle.1
  refine cH41zbK2 (σ := [.whole 0]) (nl := []) (crAt s (rdU s 0 0).2.1 (rdU s 0 0).2.2 hle.1 (by omega)) ?_
  rintro v h' ⟨rfl, rfl⟩ hcaps
  refine rH41zbK0 ?_
  repeat' (first | (fail_if_success (with_reducible refine xstp ?_)); first | ((fail_if_success (with_reducible first | refine xgon ?_ | intro _)); (conv => whnf); (fail_if_success (fail_if_success (with_reducible first | refine xstp ?_ | refine xgon ?_ | intro _)))))
  have hI : ixL s = (_, _) := if_pos h2
  generalize hr0 : rdAt s (rdU s 0 0).2.1 (rdU s 0 0).2.2 = r0 at *
  have hn0 := rdAt_le s (rdU s 0 0).2.1 (rdU s 0 0).2.2
  rw [hr0] at hn0
  obtain ⟨n0, a0, e0⟩ := r0
  simp only at hI hm1 hn0
  have hn0 : n0 ≤ 1099511627776 := by omega
  refine LoopK.mk' {p : Nat × Nat × Nat × List Ep × Nat // p.1 ≤ 1099511627776 ∧ EnI s n0 a0 e0 p.1 p.2.1 p.2.2.1 (es p.2.2.2.1)}
    (fun ⟨(n, a, e, X, c), _⟩ => ⟨[(4, .c (.p 0 0 0)), (5, .c (.sl 1 0 5 0 X.length c)), (6, .c (.i .i64 (n : Nat)))], [.one (rdC s a e), .one (epR 2 3 X c), .many (tpG X), .many (cnG X)]⟩) (fun p => p.1.1)
    ⟨⟨(n0, a0, e0, [], 0), hn0, ⟨hm1.2, Nat.zero_le _, rfl⟩⟩, [0, 99, 98, 97], ?_⟩ ?_
  · (repeat' first | refine And.intro ?_ ?_ | exact xeC | fail)
    all_goals first
      | exact xmC2
      | (intro i hi; exact absurd hi (Nat.not_lt_zero i))
      | exact fun x => if_neg (Nat.not_lt_zero x)
      | skip
  rintro ⟨⟨n, a, e, X, c⟩, hnm, hE⟩
  simp only at hnm hE
  have ha := hE.le
  have hn := hE.len
  have hXl : (es X).length = X.length := List.length_map _
  repeat' (first | (fail_if_success (with_reducible refine xstp ?_)); first | ((with_reducible refine And.intro (fun (hb : _ = true) => ?_) (fun (hb : _ = false) => ?_)) <;> replace hb := xnC hb <;> (try first | exact xfC | exact bff hb (by assumption) | exact bff (by assumption) hb)) | (with_reducible intro hc; (try simp only [capsP, and_true] at hc); (try exact xfC)) | ((fail_if_success (with_reducible first | refine xgon ?_ | intro _)); (conv => whnf); (fail_if_success (fail_if_success (with_reducible first | refine xstp ?_ | refine xgon ?_ | intro _)))))
  · refine cH41zbK2 (σ := [.whole 0]) (nl := []) (cErr s a e) ?_ (hle := by (repeat' first | refine And.intro ?_ ?_ | exact xeC | fail) <;> exact xmC2)
    rintro v h' ⟨rfl, rfl⟩ hcaps
    refine rH41zbK0 ?_
    repeat' (first | (fail_if_success (with_reducible refine xstp ?_)); first | ((with_reducible refine And.intro (fun (hb : _ = true) => ?_) (fun (hb : _ = false) => ?_)) <;> replace hb := xnC hb <;> (try first | exact xfC | exact bff hb (by assumption) | exact bff (by assumption) hb)) | ((fail_if_success (with_reducible first | refine xgon ?_ | intro _)); (conv => whnf); (fail_if_success (fail_if_success (with_reducible first | refine xstp ?_ | refine xgon ?_ | intro _)))))
    · obtain rfl : e = 0 := by omega
      obtain ⟨m, rfl⟩ : ∃ m, n = m + 1 := ⟨n - 1, by omega⟩
      have hsm := sm_mono (s := s) (a := a) (e := 0) ha
      have hsp := sm_pos (s := s) (a := a) (e := 0)
      have hk0 : (sm4 s a 0).1 ≤ 1099511627776 := by have := rdAt_le s (sm3 s a 0).2.1 (sm3 s a 0).2.2; unfold sm4; omega
      rw [if_pos rfl] at hn
      refine cH41zbK2 (σ := [.whole 0]) (nl := []) (crAt s a 0 ha (by omega)) ?_ (hle := by (repeat' first | refine And.intro ?_ ?_ | exact xeC | fail) <;> exact xmC2)
      rintro v h' ⟨rfl, rfl⟩ hcaps
      refine rH41zbK0 ?_
      repeat' (first | (fail_if_success (with_reducible refine xstp ?_)); first | ((fail_if_success (with_reducible first | refine xgon ?_ | intro _)); (conv => whnf); (fail_if_success (fail_if_success (with_reducible first | refine xstp ?_ | refine xgon ?_ | intro _)))))
      refine cH41zbK2 (σ := [.whole 0]) (nl := []) (crAt s (sm1 s a 0).2.1 (sm1 s a 0).2.2 hsm.1 (by omega)) ?_ (hle := by (repeat' first | refine And.intro ?_ ?_ | exact xeC | fail) <;> exact xmC2)
      rintro v h' ⟨rfl, rfl⟩ hcaps
      refine rH41zbK0 ?_
      repeat' (first | (fail_if_success (with_reducible refine xstp ?_)); first | ((fail_if_success (with_reducible first | refine xgon ?_ | intro _)); (conv => whnf); (fail_if_success (fail_if_success (with_reducible first | refine xstp ?_ | refine xgon ?_ | intro _)))))
      refine cH41zbK2 (σ := [.whole 0]) (nl := []) (crAt s (sm2 s a 0).2.1 (sm2 s a 0).2.2 hsm.2.1 (by omega)) ?_ (hle := by (repeat' first | refine And.intro ?_ ?_ | exact xeC | fail) <;> exact xmC2)
      rintro v h' ⟨rfl, rfl⟩ hcaps
      refine rH41zbK0 ?_
      repeat' (first | (fail_if_success (with_reducible refine xstp ?_)); first | ((fail_if_success (with_reducible first | refine xgon ?_ | intro _)); (conv => whnf); (fail_if_success (fail_if_success (with_reducible first | refine xstp ?_ | refine xgon ?_ | intro _)))))
      refine cH41zbK2 (σ := [.whole 0]) (nl := []) (crAt s (sm3 s a 0).2.1 (sm3 s a 0).2.2 hsm.2.2.1 (by omega)) ?_ (hle := by (repeat' first | refine And.intro ?_ ?_ | exact xeC | fail) <;> exact xmC2)
      rintro v h' ⟨rfl, rfl⟩ hcaps
      refine rH41zbK0 ?_
      repeat' (first | (fail_if_success (with_reducible refine xstp ?_)); first | ((fail_if_success (with_reducible first | refine xgon ?_ | intro _)); (conv => whnf); (fail_if_success (fail_if_success (with_reducible first | refine xstp ?_ | refine xgon ?_ | intro _)))))
      refine LoopK.mk' {p : Nat × Nat × Nat × List Tl × Nat × Nat // p.1 ≤ 1099511627776 ∧ TlI s (sm4 s a 0).1 (sm4 s a 0).2.1 (sm4 s a 0).2.2 p.1 p.2.1 p.2.2.1 p.2.2.2.1}
        (fun ⟨(k, a1, e1, U, c1, c2), _⟩ => ⟨[(4, .c (.p 0 0 0)), (5, .c (.sl 1 0 5 0 X.length c)), (6, .c (.i .i64 ((m + 1 : Nat) : Int))), (7, .c (.p 4 0 0)), (8, .c (.i .i64 (k : Nat)))],
          [.one (rdC s a1 e1), .one (epR 2 3 X c), .many (tpG X), .many (cnG X), .one (.cells true [.i .i64 ((sm1 s a 0).1 : Nat), .i .i64 ((sm2 s a 0).1 : Nat), .i .i64 ((sm3 s a 0).1 : Nat), .sl 5 0 1 0 (U.map Prod.fst).length c1, .sl 6 0 1 0 (U.map Prod.snd).length c2]), .one (stR true (U.map Prod.fst) c1), .one (ntR true (U.map Prod.snd) c2)]⟩) (fun p => p.1.1)
        ⟨⟨((sm4 s a 0).1, (sm4 s a 0).2.1, (sm4 s a 0).2.2, [], 0, 0), hk0, ⟨hsm.2.2.2.1, Nat.zero_le _, rfl⟩⟩, [0, 1, 2, 3, 4, 99, 98], ?_⟩ ?_
      · (repeat' first | refine And.intro ?_ ?_ | exact xeC | fail)
        all_goals first
          | exact xmC2
          | (intro i hi; exact absurd hi (Nat.not_lt_zero i))
          | skip
      rintro ⟨⟨k, a1, e1, U, c1, c2⟩, hkm, hT⟩
      simp only at hkm hT
      have ha1 := hT.le
      have hn1 := hT.len
      have hU1 : (U.map Prod.fst).length = U.length := List.length_map _
      have hU2 : (U.map Prod.snd).length = U.length := List.length_map _
      repeat' (first | (fail_if_success (with_reducible refine xstp ?_)); first | ((with_reducible refine And.intro (fun (hb : _ = true) => ?_) (fun (hb : _ = false) => ?_)) <;> replace hb := xnC hb <;> (try first | exact xfC | exact bff hb (by assumption) | exact bff (by assumption) hb)) | ((with_reducible refine And.intro ?_ ?_); focus exact xoC) | ((with_reducible refine Or.inl ⟨?_, ?_, ?_⟩); (focus rfl); focus exact xaC) | (with_reducible intro hc; (try simp only [capsP, and_true] at hc); (try exact xfC)) | ((fail_if_success (with_reducible first | refine xgon ?_ | intro _)); (conv => whnf); (fail_if_success (fail_if_success (with_reducible first | refine xstp ?_ | refine xgon ?_ | intro _)))))
      · refine cH41zbK2 (σ := [.whole 0]) (nl := []) (cErr s a1 e1) ?_ (hle := by (repeat' first | refine And.intro ?_ ?_ | exact xeC | fail) <;> exact xmC2)
        rintro v h' ⟨rfl, rfl⟩ hcaps
        refine rH41zbK0 ?_
        repeat' (first | (fail_if_success (with_reducible refine xstp ?_)); first | ((with_reducible refine And.intro (fun (hb : _ = true) => ?_) (fun (hb : _ = false) => ?_)) <;> replace hb := xnC hb <;> (try first | exact xfC | exact bff hb (by assumption) | exact bff (by assumption) hb)) | ((with_reducible refine And.intro ?_ ?_); focus exact xoC) | ((with_reducible refine Or.inl ⟨?_, ?_, ?_⟩); (focus rfl); focus exact xaC) | (with_reducible intro hc; (try simp only [capsP, and_true] at hc); (try exact xfC)) | ((fail_if_success (with_reducible first | refine xgon ?_ | intro _)); (conv => whnf); (fail_if_success (fail_if_success (with_reducible first | refine xstp ?_ | refine xgon ?_ | intro _)))))
        · obtain rfl : e1 = 0 := by omega
          obtain ⟨j, rfl⟩ : ∃ j, k = j + 1 := ⟨k - 1, by omega⟩
          rw [if_pos rfl] at hn1
          have htm := rdT_mono (e := 0) (m := 40) ha1
          refine cH41zbK2 (σ := [.whole 0]) (nl := []) (crText s a1 0 40 ha1 (by omega) (by omega)) ?_ (hle := by (repeat' first | refine And.intro ?_ ?_ | exact xeC | fail) <;> exact xmC2)
          rintro v h' ⟨rfl, rfl⟩ hcaps
          refine rH41zbK0 ?_
          repeat' (first | (fail_if_success (with_reducible refine xstp ?_)); first | ((with_reducible refine And.intro ?_ ?_); focus exact xoC) | ((with_reducible refine Or.inl ⟨?_, ?_, ?_⟩); (focus rfl); focus exact xaC) | (with_reducible intro hc; (try simp only [capsP, and_true] at hc); (try exact xfC)) | ((fail_if_success (with_reducible first | refine xgon ?_ | intro _)); (conv => whnf); (fail_if_success (fail_if_success (with_reducible first | refine xstp ?_ | refine xgon ?_ | intro _)))))
          refine cH41zbK2 (σ := [.whole 0]) (nl := []) (crAt s (tlT s a1).2.1 (tlT s a1).2.2 htm.2 (by omega)) ?_ (hle := by (repeat' first | refine And.intro ?_ ?_ | exact xeC | fail) <;> exact xmC2)
          rintro v h' ⟨rfl, rfl⟩ hcaps
          refine rH41zbK1 ?_
          repeat' (first | (fail_if_success (with_reducible refine xstp ?_)); first | ((with_reducible refine And.intro ?_ ?_); focus exact xoC) | ((with_reducible refine Or.inl ⟨?_, ?_, ?_⟩); (focus rfl); focus exact xaC) | (with_reducible intro hc; (try simp only [capsP, and_true] at hc); (try exact xfC)) | ((fail_if_success (with_reducible first | refine xgon ?_ | intro _)); (conv => whnf); (fail_if_success (fail_if_success (with_reducible first | refine xstp ?_ | refine xgon ?_ | intro _)))))
          rename_i c3 _ _ c4
          refine ⟨⟨(j, (tlM s a1).2.1, (tlM s a1).2.2, U ++ [((tlT s a1).1, (tlM s a1).1)], c3, c4), by omega, hT.step⟩, [0, 1, 2, 3, 4, 8, 10], by simp only; omega, ?_⟩
          simp only [List.map_append, List.map_cons, List.map_nil]
          (repeat' first | refine And.intro ?_ ?_ | exact xeC | fail)
          all_goals first
            | exact xmC2
            | skip
          all_goals first | omega | (simp only [List.length_append, List.length_singleton]; done) | (rw [List.length_append, List.length_singleton]; omega) | (intro i hi; (first | refine app_rowG _ _ _ _ ?_ i hi | refine app_row _ _ _ ?_ i hi); first | rfl | (simp only [Int.toNat_natCast, Nat.zero_add]; rfl))
        · skip
          have hst2 : tlN s k a1 e1 = ([], a1, e1) := tlN_stop (by omega)
          have hq2 := hT.q
          rw [hst2] at hq2
          simp only [List.append_nil] at hq2
          have hen : enT s a 0 = (U, a1, e1) := hq2
          have hrd : rdEn s a 0 = ⟨(sm1 s a 0).1, (sm2 s a 0).1, (sm3 s a 0).1, U⟩ := by unfold rdEn; rw [hen]
          have hE2 := hE.step
          rw [hen, hrd] at hE2
          repeat' (first | (fail_if_success (with_reducible refine xstp ?_)); first | ((with_reducible refine And.intro (fun (hb : _ = true) => ?_) (fun (hb : _ = false) => ?_)) <;> replace hb := xnC hb <;> (try first | exact xfC | exact bff hb (by assumption) | exact bff (by assumption) hb)) | (with_reducible refine Both.mk ?_ ?_) | ((with_reducible refine And.intro ?_ ?_); focus exact xoC) | ((with_reducible refine Or.inl ⟨?_, ?_, ?_⟩); (focus rfl); focus exact xaC) | ((with_reducible refine xwB ?_ ?_); focus exact xaC) | ((with_reducible refine xwC ?_ ?_); focus exact xaC) | ((with_reducible refine xwD ?_ ?_); focus exact xaC) | ((with_reducible refine xwE ?_ ?_); focus exact xaC) | (with_reducible intro hc; (try simp only [capsP, and_true] at hc); (try exact xfC)) | ((fail_if_success (with_reducible first | refine xgon ?_ | intro _)); (conv => whnf); (fail_if_success (fail_if_success (with_reducible first | refine xstp ?_ | refine Both.mk ?_ ?_ | refine xgon ?_ | intro _)))))
          rename_i c3
          refine ⟨⟨(m, a1, e1, X ++ [⟨⟨(sm1 s a 0).1, (sm2 s a 0).1, (sm3 s a 0).1, U⟩, c1, c2⟩], c3), by omega, by show EnI s n0 a0 e0 m a1 e1 (es (X ++ [_])); rw [es_snoc]; exact hE2⟩, [0, 8, .adopt 2 X.length 5, .adopt 3 X.length 6], by simp only; omega, ?_⟩
          (repeat' first | refine And.intro ?_ ?_ | exact xeC | fail)
          all_goals first
            | exact xmC2
            | omega
            | (rw [List.length_append, List.length_singleton]; done)
            | (rw [List.length_append, List.length_singleton]; omega)
            | exact epApp (F := 2) (G := 3) (P := 5) (Q := 6) (fun i hi => by simp [key, hi]) (by simp [key]) (fun i hi => by simp [key, hi]) (by simp [key]) (by rw [hU1, hU2]; rfl)
            | exact fun x hx => ixG_leA tpF hx
            | exact fun x hx => ixG_leA cnF hx
            | skip
          refine ixG_leAn tpF ?_
          refine ⟨rfl, rfl, rfl, rfl, Nat.le_refl _, rfl, fun _ _ => rfl, ?_⟩
          (repeat' first | refine And.intro ?_ ?_ | exact xeC | fail)
          all_goals first
            | exact xmC2
            | exact fun x hx => ixG_leA cnF hx
            | skip
          refine ixG_leAn cnF ?_
          refine ⟨rfl, rfl, rfl, rfl, Nat.le_refl _, rfl, fun _ _ => rfl, ?_⟩
          (repeat' first | refine And.intro ?_ ?_ | exact xeC | fail)
          all_goals first
            | exact xmC2
            | omega
            | (rw [List.length_append, List.length_singleton]; done)
            | skip
      · skip
        have hst2 : tlN s k a1 e1 = ([], a1, e1) := tlN_stop (by omega)
        have hq2 := hT.q
        rw [hst2] at hq2
        simp only [List.append_nil] at hq2
        have hen : enT s a 0 = (U, a1, e1) := hq2
        have hrd : rdEn s a 0 = ⟨(sm1 s a 0).1, (sm2 s a 0).1, (sm3 s a 0).1, U⟩ := by unfold rdEn; rw [hen]
        have hE2 := hE.step
        rw [hen, hrd] at hE2
        repeat' (first | (fail_if_success (with_reducible refine xstp ?_)); first | ((with_reducible refine And.intro (fun (hb : _ = true) => ?_) (fun (hb : _ = false) => ?_)) <;> replace hb := xnC hb <;> (try first | exact xfC | exact bff hb (by assumption) | exact bff (by assumption) hb)) | (with_reducible refine Both.mk ?_ ?_) | ((with_reducible refine And.intro ?_ ?_); focus exact xoC) | ((with_reducible refine Or.inl ⟨?_, ?_, ?_⟩); (focus rfl); focus exact xaC) | ((with_reducible refine xwB ?_ ?_); focus exact xaC) | ((with_reducible refine xwC ?_ ?_); focus exact xaC) | ((with_reducible refine xwD ?_ ?_); focus exact xaC) | ((with_reducible refine xwE ?_ ?_); focus exact xaC) | (with_reducible intro hc; (try simp only [capsP, and_true] at hc); (try exact xfC)) | ((fail_if_success (with_reducible first | refine xgon ?_ | intro _)); (conv => whnf); (fail_if_success (fail_if_success (with_reducible first | refine xstp ?_ | refine Both.mk ?_ ?_ | refine xgon ?_ | intro _)))))
        rename_i c3
        refine ⟨⟨(m, a1, e1, X ++ [⟨⟨(sm1 s a 0).1, (sm2 s a 0).1, (sm3 s a 0).1, U⟩, c1, c2⟩], c3), by omega, by show EnI s n0 a0 e0 m a1 e1 (es (X ++ [_])); rw [es_snoc]; exact hE2⟩, [0, 8, .adopt 2 X.length 5, .adopt 3 X.length 6], by simp only; omega, ?_⟩
        (repeat' first | refine And.intro ?_ ?_ | exact xeC | fail)
        all_goals first
          | exact xmC2
          | omega
          | (rw [List.length_append, List.length_singleton]; done)
          | (rw [List.length_append, List.length_singleton]; omega)
          | exact epApp (F := 2) (G := 3) (P := 5) (Q := 6) (fun i hi => by simp [key, hi]) (by simp [key]) (fun i hi => by simp [key, hi]) (by simp [key]) (by rw [hU1, hU2]; rfl)
          | exact fun x hx => ixG_leA tpF hx
          | exact fun x hx => ixG_leA cnF hx
          | skip
        refine ixG_leAn tpF ?_
        refine ⟨rfl, rfl, rfl, rfl, Nat.le_refl _, rfl, fun _ _ => rfl, ?_⟩
        (repeat' first | refine And.intro ?_ ?_ | exact xeC | fail)
        all_goals first
          | exact xmC2
          | exact fun x hx => ixG_leA cnF hx
          | skip
        refine ixG_leAn cnF ?_
        refine ⟨rfl, rfl, rfl, rfl, Nat.le_refl _, rfl, fun _ _ => rfl, ?_⟩
        (repeat' first | refine And.intro ?_ ?_ | exact xeC | fail)
        all_goals first
          | exact xmC2
          | omega
          | (rw [List.length_append, List.length_singleton]; done)
          | skip
    · skip
      have hst : enN s n a e = ([], a, e) := enN_stop (by omega)
      have hq := hE.q
      rw [hst] at hq
      simp only [List.append_nil] at hq
      rw [hq] at hI
      simp only at hI
      refine cH41zbK2 (σ := [.whole 0]) (nl := []) (cEnd s a e ha (by omega)) ?_ (hle := by (repeat' first | refine And.intro ?_ ?_ | exact xeC | fail) <;> exact xmC2)
      rintro v h' ⟨rfl, rfl⟩ hcaps
      refine rH41zbK0 ?_
      repeat' (first | (fail_if_success (with_reducible refine xstp ?_)); first | ((fail_if_success (with_reducible first | refine xgon ?_ | intro _)); (conv => whnf); (fail_if_success (fail_if_success (with_reducible first | refine xstp ?_ | refine xgon ?_ | intro _)))))
      refine FinK.mk ⟨[1, 2, 3], _, _, ⟨X, c, by rw [hI], rfl, rfl⟩, ?_⟩
      rw [hI]
      (repeat' first | refine And.intro ?_ ?_ | exact xeC | fail)
      all_goals first
        | exact xmC2
        | (first | exact decide_eq_true (by omega) | exact decide_eq_false (by omega) | exact (decide_eq_true (by omega)).symm | exact (decide_eq_false (by omega)).symm | exact decide_eq_decide.2 (by omega))
        | skip
  · skip
    have hst : enN s n a e = ([], a, e) := enN_stop (by omega)
    have hq := hE.q
    rw [hst] at hq
    simp only [List.append_nil] at hq
    rw [hq] at hI
    simp only at hI
    refine cH41zbK2 (σ := [.whole 0]) (nl := []) (cEnd s a e ha (by omega)) ?_ (hle := by (repeat' first | refine And.intro ?_ ?_ | exact xeC | fail) <;> exact xmC2)
    rintro v h' ⟨rfl, rfl⟩ hcaps
    refine rH41zbK0 ?_
    repeat' (first | (fail_if_success (with_reducible refine xstp ?_)); first | ((fail_if_success (with_reducible first | refine xgon ?_ | intro _)); (conv => whnf); (fail_if_success (fail_if_success (with_reducible first | refine xstp ?_ | refine xgon ?_ | intro _)))))
    refine FinK.mk ⟨[1, 2, 3], _, _, ⟨X, c, by rw [hI], rfl, rfl⟩, ?_⟩
    rw [hI]
    (repeat' first | refine And.intro ?_ ?_ | exact xeC | fail)
    all_goals first
      | exact xmC2
      | (first | exact decide_eq_true (by omega) | exact decide_eq_false (by omega) | exact (decide_eq_true (by omega)).symm | exact (decide_eq_false (by omega)).symm | exact decide_eq_decide.2 (by omega))
      | skip
end Go.Proofs.YtkjkbpnhocjenaaGreat


namespace Go.Proofs.YtkjkbpnhocjenaaGreat
open Go.X
set_option linter.unusedSimpArgs false
set_option linter.unusedVariables false
open P4
open P5
theorem getEs (X : List Ep) (i : Nat) : (es X).getD i default = (X.getD i default).e := by
  simp only [List.getD, List.getElem?_map]
  cases X[i]? <;> rfl
theorem getFst (U : List Tl) (j : Nat) : (U.map Prod.fst).getD j default = (U.getD j default).1 := by
  simp only [List.getD, List.getElem?_map]
  cases U[j]? <;> rfl
theorem getSnd (U : List Tl) (j : Nat) : (U.map Prod.snd).getD j default = (U.getD j default).2 := by
  simp only [List.getD, List.getElem?_map]
  cases U[j]? <;> rfl
theorem rH41zbL0 {σ : List Sg} {H h' : List Fam} {v : T} {K : T → List Fam → Prop} {H' : List Fam} {v' : T} {N : Nat} (hk : K v' H') (hN : H.length = N := by (try simp only [↓List.length_cons, ↓List.length_nil, Nat.reduceAdd]) <;> rfl) (h : givesF σ N H σ h' = some H' := by (try simp (maxSteps := 1000000) only [givesF, setF, updF, Fam.zeroth, Fam.rk, Ck.rk, C.rk, E.rk, T.rk, key, List.map_cons, List.map_nil, List.cons_append, List.nil_append, List.length_cons, List.length_nil, Option.map_some, Option.bind_some, Nat.reduceAdd, Nat.zero_add, Nat.add_zero, Nat.add_sub_cancel_left, Int.toNat_natCast, reps, List.all_cons, List.all_nil, C.flat, List.append_eq, Bool.not_true, Bool.and_true, Bool.or_false, Bool.or_self, Bool.not_false, List.append_nil, Bool.and_self, ↓tpG_rk, ↓cnG_rk]) <;> rfl) (hv : v.rk σ N = v' := by (try simp only [givesF, setF, updF, Fam.zeroth, Fam.rk, Ck.rk, C.rk, E.rk, T.rk, key, List.map_cons, List.map_nil, List.cons_append, List.nil_append, List.length_cons, List.length_nil, Option.map_some, Option.bind_some, Nat.reduceAdd, Nat.zero_add, Nat.add_zero, Nat.add_sub_cancel_left, Int.toNat_natCast, reps, List.all_cons, List.all_nil, C.flat, List.append_eq, Bool.not_true, Bool.and_true, Bool.or_false, Bool.or_self, Bool.not_false, List.append_nil, Bool.and_self, ↓tpG_rk, ↓cnG_rk]) <;> rfl) : RetG σ H h' v K := ret_mk3 hN h hv hk
theorem cH41zbL1 {P : Program} {F : Nat} {args : List T} {H : List Fam} {K : T → List Fam → Prop} {σ : List Sg} {nl : List Fam} {args0 : List T} {h0 : List Fam} {Q : T → List Fam → Prop} {H2 H1 : List Fam} {N n : Nat} (hc : Ctr P F args0 h0 Q) (hk : ∀ v h', Q v h' → capsP h' → RetG σ H2 h' v K) (hap : apart σ = true := by rfl) (hnl : nl.all nilB = true := by rfl) (h1 : H ++ nl = H1 := by first | exact List.append_nil _ | ((try simp only [List.cons_append, List.nil_append]) <;> rfl)) (hN : H1.length = N := by (try simp only [↓List.length_cons, ↓List.length_nil, Nat.reduceAdd]) <;> rfl) (hn : H.length = n := by (try simp only [↓List.length_cons, ↓List.length_nil, Nat.reduceAdd]) <;> rfl) (hH : givesF σ N H1 σ h0 = some H2 := by (try simp (maxSteps := 1000000) only [givesF, setF, updF, Fam.zeroth, Fam.rk, Ck.rk, C.rk, E.rk, T.rk, key, List.map_cons, List.map_nil, List.cons_append, List.nil_append, List.length_cons, List.length_nil, Option.map_some, Option.bind_some, Nat.reduceAdd, Nat.zero_add, Nat.add_zero, Nat.add_sub_cancel_left, Int.toNat_natCast, reps, List.all_cons, List.all_nil, C.flat, List.append_eq, Bool.not_true, Bool.and_true, Bool.or_false, Bool.or_self, Bool.not_false, List.append_nil, Bool.and_self, ↓tpG_rk, ↓cnG_rk]) <;> rfl) (hle : leS n H1 σ N σ h0 (belsK N (h0.map (Fam.rk σ N)) (argsK n args (args0.map (T.rk σ N)) True)) := by repeat' first | refine And.intro ?_ ?_ | exact xeC | fail) : CallK P F args H K := CallK.mk3 hc hap hnl h1 hN hn hH hle hk
set_option maxRecDepth 10000 in
set_option maxHeartbeats 16000000 in
theorem cordered (X : List Ep) (c : Nat) (ix : Nat) (hX : X.length ≤ 1000000000) (hT : ∀ y ∈ X, y.e.T.length ≤ 1000000000 ∧ ∀ t ∈ y.e.T, t.1.length ≤ 1000) :
    Ctr Tryz.prog 46 [.c (.sl 0 0 5 0 X.length c), .c (.i .i64 (ix : Nat))] [.one (epR 1 2 X c), .many (tpG X), .many (cnG X)]
      fun v h => v = .c (.b (decide (ordE (es X) ix))) ∧ h = [.one (epR 1 2 X c), .many (tpG X), .many (cnG X)] := by
  have hEl : (es X).length = X.length := List.length_map _
  have hno : ∀ i, i < X.length → ¬ okE1 (es X) ix i → decide (ordE (es X) ix) = false := fun i hi h => decide_eq_false (fun q => h (q.2 i (by omega)))
  refine Ctr.mk' tbv mixed Tryz.func46 rfl rfl rfl (fun _ _ => by kernel_rfl) (by kernel_rfl) (by rfl) (by rfl) (by (repeat' first | refine And.intro ?_ ?_ | exact xeC | fail) <;> exact xmC2) ?_
  repeat' (first | (fail_if_success (with_reducible refine xstp ?_)); first | ((with_reducible refine And.intro (fun (hb : _ = true) => ?_) (fun (hb : _ = false) => ?_)) <;> replace hb := xnC hb <;> (try first | exact xfC | exact bff hb (by assumption) | exact bff (by assumption) hb)) | (with_reducible intro hc; (try simp only [capsP, and_true] at hc); (try exact xfC)) | ((fail_if_success (with_reducible first | refine xgon ?_ | intro _)); (conv => whnf); (fail_if_success (fail_if_success (with_reducible first | refine xstp ?_ | refine xgon ?_ | intro _)))))
  · rw [show decide (ordE (es X) ix) = decide ((ix : Int) = 5) from decide_eq_decide.2 ⟨fun q => by have := q.1 (by omega); omega, fun q => ⟨fun _ => by omega, fun i hi => by omega⟩⟩]
    refine FinK.mk ⟨[0, 1, 2], _, _, ⟨rfl, rfl⟩, ?_⟩
    (repeat' first | refine And.intro ?_ ?_ | exact xeC | fail)
    all_goals exact xmC2
  refine LoopK.mk' {p : Nat × Nat // p.1 ≤ X.length ∧ (∀ j, j < p.1 → okE1 (es X) ix j) ∧ (p.1 = 0 → p.2 = 0) ∧ (0 < p.1 → p.2 = (X.getD (p.1 - 1) default).e.la)}
    (fun ⟨(i, las), _⟩ => ⟨[(0, .c (.sl 0 0 5 0 X.length c)), (1, .c (.i .i64 (ix : Nat))), (5, .c (.i .i64 (las : Nat))), (15, .c (.sl 0 0 5 0 X.length c)), (16, .c (.i .i64 (X.length : Nat))), (17, .c (.i .i64 (i : Nat)))],
      [.one (epR 1 2 X c), .many (tpG X), .many (cnG X)]⟩) (fun k => X.length - k.1.1)
    ⟨⟨(0, 0), Nat.zero_le _, fun j hj => absurd hj (Nat.not_lt_zero _), fun _ => rfl, fun h => absurd h (Nat.lt_irrefl _)⟩, [0, 1, 2], ?_⟩ ?_
  · (repeat' first | refine And.intro ?_ ?_ | exact xeC | fail)
    all_goals exact xmC2
  rintro ⟨⟨i, las⟩, hi, hq, hl0, hl1⟩
  simp only at hi hq hl0 hl1
  have e2 : 0 + ((i : Nat) : Int).toNat = i := by omega
  rcases Nat.lt_or_ge i X.length with hlt | hge
  · have hTi := hT (X.getD i default) (by rw [getD_at hlt]; exact List.getElem_mem _)
    repeat' (first | (fail_if_success (with_reducible refine xstp ?_)); first | ((with_reducible refine And.intro (fun (hb : _ = true) => ?_) (fun (hb : _ = false) => ?_)) <;> replace hb := xnC hb <;> (try first | exact xfC | exact bff hb (by assumption) | exact bff (by assumption) hb)) | ((with_reducible refine And.intro ?_ ?_); focus exact xoC) | (with_reducible intro hc; (try simp only [capsP, and_true] at hc); (try exact xfC)) | ((fail_if_success (with_reducible first | refine xgon ?_ | intro _)); (conv => whnf); (fail_if_success (fail_if_success (with_reducible first | refine xstp ?_ | refine xgon ?_ | intro _)))))
    all_goals try (
      rw [hno i hlt (fun q => by
        obtain ⟨⟨q1, q2, q3⟩, ⟨q4, q5, q6⟩, q7⟩ := q
        simp only [getEs] at q1 q2 q3 q4 q5 q6
        rcases Nat.eq_zero_or_pos i with h0 | h0
        · have := q1 h0
          have := hl0 h0
          omega
        · have := q2 h0
          have := q4 h0
          have := hl1 h0
          have e6 : (X.getD ((i : Int) - 1).toNat default).e.off = (X.getD (i - 1) default).e.off := by rw [show ((i : Int) - 1).toNat = i - 1 by omega]
          omega)]
      refine FinK.mk ⟨[0, 1, 2], _, _, ⟨rfl, rfl⟩, ?_⟩
      (repeat' first | refine And.intro ?_ ?_ | exact xeC | fail)
      all_goals exact xmC2
      done)
    all_goals rw [e2]
    all_goals (
      have hE3 : okTs (X.getD i default).e.T → okE1 (es X) ix i := fun q => by
        refine ⟨⟨fun h0 => ?_, fun h0 => ?_, ?_⟩, ⟨fun h0 => ?_, ?_, ?_⟩, ?_⟩
        all_goals simp only [getEs]
        · omega
        · have := hl1 h0
          have e6 : (X.getD ((i : Int) - 1).toNat default).e.off = (X.getD (i - 1) default).e.off := by rw [show ((i : Int) - 1).toNat = i - 1 by omega]
          omega
        · omega
        · have := hl1 h0
          omega
        · omega
        · omega
        · exact q
      refine LoopK.mk' {k : Nat // k ≤ (X.getD i default).e.T.length ∧ ∀ j, j < k → okT1 (X.getD i default).e.T j}
        (fun ⟨k, _⟩ => ⟨[(0, .c (.sl 0 0 5 0 X.length c)), (1, .c (.i .i64 (ix : Nat))), (5, .c (.i .i64 ((X.getD i default).e.la : Nat))), (7, .c (.p 3 0 0)), (15, .c (.sl 0 0 5 0 X.length c)), (16, .c (.i .i64 (X.length : Nat))), (17, .c (.i .i64 (i : Nat))), (64, .c (.sl 1 i 1 0 (X.getD i default).e.T.length (X.getD i default).c1)), (65, .c (.i .i64 ((X.getD i default).e.T.length : Nat))), (66, .c (.i .i64 (k : Nat)))],
          [.one (epR 1 2 X c), .many (tpG X), .many (cnG X), .one (.cells true (encEp 1 2 X i))]⟩) (fun k => (X.getD i default).e.T.length - k.1)
        ⟨⟨0, Nat.zero_le _, fun j hj => absurd hj (Nat.not_lt_zero _)⟩, [0, 1, 2, 3], ?_⟩ ?_
      · (repeat' first | refine And.intro ?_ ?_ | exact xeC | fail)
        all_goals exact xmC2
      rintro ⟨k, hk, hkq⟩
      have g1 : ixG tpC X i = stR true ((X.getD i default).e.T.map Prod.fst) (X.getD i default).c1 := ixG_at hlt
      have g2 : ixG cnC X i = ntR true ((X.getD i default).e.T.map Prod.snd) (X.getD i default).c2 := ixG_at hlt
      have hm1 : ((X.getD i default).e.T.map Prod.fst).length = (X.getD i default).e.T.length := List.length_map _
      have hm2 : ((X.getD i default).e.T.map Prod.snd).length = (X.getD i default).e.T.length := List.length_map _
      rcases Nat.lt_or_ge k (X.getD i default).e.T.length with hkl | hkg
      · have hti := hTi.2 ((X.getD i default).e.T.getD k default) (by rw [getD_at hkl]; exact List.getElem_mem _)
        have e5 : 0 + ((k : Nat) : Int).toNat = k := by omega
        have e6 : 0 < k → ((X.getD i default).e.T.map Prod.fst).getD ((k : Int) - 1).toNat default = ((X.getD i default).e.T.getD (k - 1) default).1 := fun h => by
          rw [show ((k : Int) - 1).toNat = k - 1 by omega, getFst]
        have hnoK : ¬ okT1 (X.getD i default).e.T k → decide (ordE (es X) ix) = false := fun h => hno i hlt (fun q => h (by
          have q7 := q.2.2
          simp only [getEs] at q7
          exact q7 k hkl))
        repeat' (first | (fail_if_success (with_reducible refine xstp ?_)); first | ((with_reducible refine And.intro (fun (hb : _ = true) => ?_) (fun (hb : _ = false) => ?_)) <;> replace hb := xnC hb <;> (try first | exact xfC | exact bff hb (by assumption) | exact bff (by assumption) hb)) | (with_reducible intro hc; (try simp only [capsP, and_true] at hc); (try exact xfC)) | ((fail_if_success (with_reducible first | refine xgon ?_ | intro _)); (conv => whnf); (fail_if_success (fail_if_success (with_reducible first | refine xstp ?_ | refine xgon ?_ | intro _)))))
        all_goals try (first | refine ManyK.mk ⟨_, g1, ?_⟩ | refine ManyK.mk ⟨_, g2, ?_⟩)
        all_goals (
          repeat' (first | (fail_if_success (with_reducible refine xstp ?_)); first | ((with_reducible refine And.intro ?_ ?_); focus exact xoC) | ((fail_if_success (with_reducible first | refine xgon ?_ | intro _)); (conv => whnf); (fail_if_success (fail_if_success (with_reducible first | refine xstp ?_ | refine xgon ?_ | intro _)))))
          )
        all_goals try (first | refine ManyK.mk ⟨_, g1, ?_⟩ | refine ManyK.mk ⟨_, g2, ?_⟩)
        all_goals (
          repeat' (first | (fail_if_success (with_reducible refine xstp ?_)); first | ((with_reducible refine And.intro ?_ ?_); focus exact xoC) | ((fail_if_success (with_reducible first | refine xgon ?_ | intro _)); (conv => whnf); (fail_if_success (fail_if_success (with_reducible first | refine xstp ?_ | refine xgon ?_ | intro _)))))
          )
        rw [e5, getFst]
        refine cH41zbL1 (σ := []) (nl := []) (cisT ((X.getD i default).e.T.getD k default).1 (by omega)) ?_ (hle := by (repeat' first | refine And.intro ?_ ?_ | exact xeC | fail) <;> exact xmC2)
        rintro v h' ⟨rfl, rfl⟩ hcaps
        refine rH41zbL0 ?_
        repeat' (first | (fail_if_success (with_reducible refine xstp ?_)); first | ((with_reducible refine And.intro (fun (hb : _ = true) => ?_) (fun (hb : _ = false) => ?_)) <;> replace hb := xnC hb <;> (try first | exact xfC | exact bff hb (by assumption) | exact bff (by assumption) hb)) | ((with_reducible refine And.intro ?_ ?_); focus exact xoC) | ((fail_if_success (with_reducible first | refine xgon ?_ | intro _)); (conv => whnf); (fail_if_success (fail_if_success (with_reducible first | refine xstp ?_ | refine xgon ?_ | intro _)))))
        all_goals try (first | refine ManyK.mk ⟨_, g1, ?_⟩ | refine ManyK.mk ⟨_, g2, ?_⟩)
        all_goals (
          repeat' (first | (fail_if_success (with_reducible refine xstp ?_)); first | ((with_reducible refine And.intro ?_ ?_); focus exact xoC) | ((fail_if_success (with_reducible first | refine xgon ?_ | intro _)); (conv => whnf); (fail_if_success (fail_if_success (with_reducible first | refine xstp ?_ | refine xgon ?_ | intro _)))))
          )
        all_goals try (first | refine ManyK.mk ⟨_, g1, ?_⟩ | refine ManyK.mk ⟨_, g2, ?_⟩)
        all_goals (
          repeat' (first | (fail_if_success (with_reducible refine xstp ?_)); first | ((with_reducible refine And.intro (fun (hb : _ = true) => ?_) (fun (hb : _ = false) => ?_)) <;> replace hb := xnC hb <;> (try first | exact xfC | exact bff hb (by assumption) | exact bff (by assumption) hb)) | ((with_reducible refine And.intro ?_ ?_); focus exact xoC) | ((fail_if_success (with_reducible first | refine xgon ?_ | intro _)); (conv => whnf); (fail_if_success (fail_if_success (with_reducible first | refine xstp ?_ | refine xgon ?_ | intro _)))))
          )
        all_goals try (first | refine ManyK.mk ⟨_, g1, ?_⟩ | refine ManyK.mk ⟨_, g2, ?_⟩)
        all_goals (
          repeat' (first | (fail_if_success (with_reducible refine xstp ?_)); first | ((with_reducible refine And.intro ?_ ?_); focus exact xoC) | ((fail_if_success (with_reducible first | refine xgon ?_ | intro _)); (conv => whnf); (fail_if_success (fail_if_success (with_reducible first | refine xstp ?_ | refine xgon ?_ | intro _)))))
          )
        all_goals try (first | refine ManyK.mk ⟨_, g1, ?_⟩ | refine ManyK.mk ⟨_, g2, ?_⟩)
        all_goals (
          repeat' (first | (fail_if_success (with_reducible refine xstp ?_)); first | ((with_reducible refine And.intro (fun (hb : _ = true) => ?_) (fun (hb : _ = false) => ?_)) <;> replace hb := xnC hb <;> (try first | exact xfC | exact bff hb (by assumption) | exact bff (by assumption) hb)) | ((with_reducible refine And.intro ?_ ?_); focus exact xoC) | ((fail_if_success (with_reducible first | refine xgon ?_ | intro _)); (conv => whnf); (fail_if_success (fail_if_success (with_reducible first | refine xstp ?_ | refine xgon ?_ | intro _)))))
          )
        all_goals first
          | rw [hnoK (fun q => by
              have q1 := q.1
              have q2 := q.2.1
              have q3 := q.2.2
              first
                | (rw [getSnd] at hb; omega)
                | exact hb q1
                | (rw [e6 (by omega)] at hb; exact leT_iff.1 hb (q2 (by omega))))]
            refine FinK.mk ⟨[0, 1, 2], _, _, ⟨rfl, rfl⟩, ?_⟩
            (repeat' first | refine And.intro ?_ ?_ | exact xeC | fail)
            all_goals exact xmC2
          | refine ⟨⟨k + 1, hkl, fun j hj => ?_⟩, [0, 1, 2, 3], by simp only; omega, ?_⟩
            · rcases Nat.lt_or_ge j k with h | h
              · exact hkq j h
              · obtain rfl : j = k := by omega
                rw [getSnd] at hb
                refine ⟨by assumption, fun h0 => ?_, by omega⟩
                first
                  | exact absurd h0 (by omega)
                  | (rename (Op.bytesLess _ _ = false ∧ _) => hbl
                     rw [e6 h0] at hbl
                     exact gtT_of hbl)
            · (repeat' first | refine And.intro ?_ ?_ | exact xeC | fail)
              all_goals exact xmC2
      · have hE4 : okE1 (es X) ix i := hE3 fun j hj => hkq j (by omega)
        repeat' (first | (fail_if_success (with_reducible refine xstp ?_)); first | ((with_reducible refine And.intro (fun (hb : _ = true) => ?_) (fun (hb : _ = false) => ?_)) <;> replace hb := xnC hb <;> (try first | exact xfC | exact bff hb (by assumption) | exact bff (by assumption) hb)) | ((with_reducible refine And.intro ?_ ?_); focus exact xoC) | (with_reducible intro hc; (try simp only [capsP, and_true] at hc); (try exact xfC)) | ((fail_if_success (with_reducible first | refine xgon ?_ | intro _)); (conv => whnf); (fail_if_success (fail_if_success (with_reducible first | refine xstp ?_ | refine xgon ?_ | intro _)))))
        refine ⟨⟨(i + 1, (X.getD i default).e.la), hlt, fun j hj => ?_, fun h => absurd h (Nat.succ_ne_zero i), fun _ => rfl⟩, [0, 1, 2], by simp only; omega, ?_⟩
        · rcases Nat.lt_or_ge j i with h | h
          · exact hq j h
          · obtain rfl : j = i := by have : j < i + 1 := hj; omega
            exact hE4
        · (repeat' first | refine And.intro ?_ ?_ | exact xeC | fail)
          all_goals exact xmC2)
  · skip
    repeat' (first | (fail_if_success (with_reducible refine xstp ?_)); first | ((with_reducible refine And.intro (fun (hb : _ = true) => ?_) (fun (hb : _ = false) => ?_)) <;> replace hb := xnC hb <;> (try first | exact xfC | exact bff hb (by assumption) | exact bff (by assumption) hb)) | (with_reducible intro hc; (try simp only [capsP, and_true] at hc); (try exact xfC)) | ((fail_if_success (with_reducible first | refine xgon ?_ | intro _)); (conv => whnf); (fail_if_success (fail_if_success (with_reducible first | refine xstp ?_ | refine xgon ?_ | intro _)))))
    rw [show decide (ordE (es X) ix) = true from decide_eq_true ⟨fun h => by omega, fun j hj => hq j (by omega)⟩]
    refine FinK.mk ⟨[0, 1, 2], _, _, ⟨rfl, rfl⟩, ?_⟩
    (repeat' first | refine And.intro ?_ ?_ | exact xeC | fail)
    all_goals exact xmC2
end Go.Proofs.YtkjkbpnhocjenaaGreat


namespace Go.Proofs.YtkjkbpnhocjenaaGreat
open Go.X
set_option linter.unusedSimpArgs false
set_option linter.unusedVariables false
open P4
open P5
theorem tlN_len {s : ByteArray} : ∀ (k a e : Nat), a ≤ s.size → (tlN s k a e).1.length ≤ s.size - a + 1 ∧ ∀ t ∈ (tlN s k a e).1, t.1.length ≤ 40
  | 0, a, e, h => by simp [tlN]
  | k + 1, a, e, h => by
    unfold tlN
    split
    · rename_i he
      subst he
      have h1 := rdT_mono (e := 0) (m := 40) h
      have h2 := rdAt_mono (e := (rdT s a 0 40).2.2) h1.2
      have h3 := tlN_len k _ (rdAt s (rdT s a 0 40).2.1 (rdT s a 0 40).2.2).2.2 h2.2
      refine ⟨?_, ?_⟩
      · simp only [List.length_cons]
        by_cases hp : (rdAt s (rdT s a 0 40).2.1 (rdT s a 0 40).2.2).2.2 = 0
        · have := rdS_pos (m := 1099511627776) hp
          have e1 : (rdS s (rdT s a 0 40).2.1 (rdT s a 0 40).2.2 1099511627776).2.1 = (rdAt s (rdT s a 0 40).2.1 (rdT s a 0 40).2.2).2.1 := rfl
          omega
        · rw [tlN_stop (.inr hp)]; simp
      · intro t ht
        rcases List.mem_cons.1 ht with rfl | ht
        · exact rdT_len s a 0 40
        · exact h3.2 t ht
    · simp
theorem enN_len {s : ByteArray} : ∀ (k a e : Nat), a ≤ s.size → (enN s k a e).1.length ≤ s.size - a + 1 ∧ ∀ y ∈ (enN s k a e).1, y.T.length ≤ s.size + 1 ∧ ∀ t ∈ y.T, t.1.length ≤ 40
  | 0, a, e, h => by simp [enN]
  | k + 1, a, e, h => by
    unfold enN
    split
    · rename_i he
      subst he
      have hm := sm_mono (e := 0) h
      have ht := tlN_mono (s := s) (sm4 s a 0).1 (sm4 s a 0).2.1 (sm4 s a 0).2.2 hm.2.2.2.1
      have hl := tlN_len (s := s) (sm4 s a 0).1 (sm4 s a 0).2.1 (sm4 s a 0).2.2 hm.2.2.2.1
      have e1 : enT s a 0 = tlN s (sm4 s a 0).1 (sm4 s a 0).2.1 (sm4 s a 0).2.2 := rfl
      have h3 := enN_len k (enT s a 0).2.1 (enT s a 0).2.2 (by rw [e1]; exact ht.2.1)
      refine ⟨?_, ?_⟩
      · simp only [List.length_cons]
        by_cases hp : (enT s a 0).2.2 = 0
        · have := sm_pos (ht.2.2 (by rw [← e1]; exact hp))
          rw [e1] at h3 hp ⊢
          omega
        · rw [enN_stop (.inr hp)]; simp
      · intro y hy
        rcases List.mem_cons.1 hy with rfl | hy
        · have e2 : (rdEn s a 0).T = (tlN s (sm4 s a 0).1 (sm4 s a 0).2.1 (sm4 s a 0).2.2).1 := rfl
          rw [e2]
          exact ⟨by omega, hl.2⟩
        · exact h3.2 y hy
    · simp
theorem ixL_len (s : ByteArray) : (ixL s).1.length ≤ s.size + 1 ∧ ∀ y ∈ (ixL s).1, y.T.length ≤ s.size + 1 ∧ ∀ t ∈ y.T, t.1.length ≤ 40 := by
  unfold ixL
  split
  · have h1 := rdU_le (s := s) (a := 0) (e := 0) (Nat.zero_le _)
    have h2 := rdAt_mono (e := (rdU s 0 0).2.2) h1.1
    have := enN_len (s := s) (rdAt s (rdU s 0 0).2.1 (rdU s 0 0).2.2).1 _ (rdAt s (rdU s 0 0).2.1 (rdU s 0 0).2.2).2.2 h2.2
    exact ⟨by simp only; omega, this.2⟩
  · simp
theorem le8_cons (b : UInt8) (l : List UInt8) : le8 (b :: l) = b.toNat + 256 * le8 l := rfl
theorem le8_lt : ∀ l : List UInt8, le8 l < 256 ^ l.length
  | [] => by simp [le8]
  | b :: l => by
    have h := le8_lt l
    have hb := b.toNat_lt
    rw [le8_cons, List.length_cons, Nat.pow_succ]
    omega
theorem openL_len (l : List UInt8) : (openL l).1.length ≤ l.length := by
  unfold openL
  split
  · simp
  · split
    · simp
    · simp
theorem exaL_len (l : List UInt8) : (exaL l).1.length ≤ l.length := by
  unfold exaL
  split
  · have := openL_len (rdT (mkS l) 0 0 l.length).1
    have := rdT_len (mkS l) 0 0 l.length
    omega
  · simp
theorem or8 (x : Nat) (b : UInt8) (h : x < 72057594037927936) :
    IntKind.u64.wrap ((BitVec.ofInt IntKind.u64.bits (IntKind.u64.wrap ((x : Int) * 2 ^ min (Int.toNat 8) IntKind.u64.bits)) ||| BitVec.ofInt IntKind.u64.bits (IntKind.u64.wrap (b.toNat : Int))).toNat : Nat) = ((b.toNat + 256 * x : Nat) : Int) := by
  have hb := b.toNat_lt
  have e1 : IntKind.u64.wrap ((x : Int) * 2 ^ min (Int.toNat 8) IntKind.u64.bits) = ((256 * x : Nat) : Int) := by
    rw [show min (Int.toNat 8) IntKind.u64.bits = 8 from rfl, IntKind.wrap_u64]; omega
  have e2 : IntKind.u64.wrap (b.toNat : Int) = ((b.toNat : Nat) : Int) := by rw [IntKind.wrap_u64]; omega
  rw [e1, e2]
  have e3 : (BitVec.ofInt IntKind.u64.bits ((256 * x : Nat) : Int)).toNat = 256 * x := by
    show (BitVec.ofInt 64 ((256 * x : Nat) : Int)).toNat = 256 * x
    rw [BitVec.ofInt_natCast, BitVec.toNat_ofNat, Nat.mod_eq_of_lt (by omega)]
  have e4 : (BitVec.ofInt IntKind.u64.bits ((b.toNat : Nat) : Int)).toNat = b.toNat := by
    show (BitVec.ofInt 64 ((b.toNat : Nat) : Int)).toNat = b.toNat
    rw [BitVec.ofInt_natCast, BitVec.toNat_ofNat, Nat.mod_eq_of_lt (by omega)]
  rw [BitVec.toNat_or, e3, e4]
  have e5 : 256 * x ||| b.toNat = 256 * x + b.toNat := by
    have := Nat.shiftLeft_add_eq_or_of_lt (i := 8) (b := b.toNat) (by omega) x
    rw [Nat.shiftLeft_eq] at this
    rw [show 256 * x = x * 2 ^ 8 by omega]
    exact this.symm
  rw [e5, IntKind.wrap_u64]
  omega
theorem bgO_L (l : List UInt8) : (bgO l).L = (ixL (mkS (bgX l).1)).1 := by simp only [bgO]
theorem encEp_rk0 (F G : Nat) (N : Nat) (X : List Ep) (i : Nat) : List.map (C.rk [] N) (encEp F G X i) = encEp (N + F) (N + G) X i := rfl
abbrev bgC (b : Bg) (F n c : Nat) : Ck := .cells true [.s (mkS b.s), .sl F 0 5 0 n c, .i .i64 (b.ix : Nat)]
abbrev bagH (b : Bg) (X : List Ep) (c : Nat) : List Fam := [.one (bgC b 1 X.length c), .one (epR 2 3 X c), .many (tpG X), .many (cnG X)]
theorem rH41zbM0 {σ : List Sg} {H h' : List Fam} {v : T} {K : T → List Fam → Prop} {H' : List Fam} {v' : T} {N : Nat} (hk : K v' H') (hN : H.length = N := by (try simp only [↓List.length_cons, ↓List.length_nil, Nat.reduceAdd]) <;> rfl) (h : givesF σ N H σ h' = some H' := by (try simp (maxSteps := 1000000) only [givesF, setF, updF, Fam.zeroth, Fam.rk, Ck.rk, C.rk, E.rk, T.rk, key, List.map_cons, List.map_nil, List.cons_append, List.nil_append, List.length_cons, List.length_nil, Option.map_some, Option.bind_some, Nat.reduceAdd, Nat.zero_add, Nat.add_zero, Nat.add_sub_cancel_left, Int.toNat_natCast, reps, List.all_cons, List.all_nil, C.flat, List.append_eq, Bool.not_true, Bool.and_true, Bool.or_false, Bool.or_self, Bool.not_false, List.append_nil, Bool.and_self, ↓tpG_rk, ↓cnG_rk]) <;> rfl) (hv : v.rk σ N = v' := by (try simp only [givesF, setF, updF, Fam.zeroth, Fam.rk, Ck.rk, C.rk, E.rk, T.rk, key, List.map_cons, List.map_nil, List.cons_append, List.nil_append, List.length_cons, List.length_nil, Option.map_some, Option.bind_some, Nat.reduceAdd, Nat.zero_add, Nat.add_zero, Nat.add_sub_cancel_left, Int.toNat_natCast, reps, List.all_cons, List.all_nil, C.flat, List.append_eq, Bool.not_true, Bool.and_true, Bool.or_false, Bool.or_self, Bool.not_false, List.append_nil, Bool.and_self, ↓tpG_rk, ↓cnG_rk]) <;> rfl) : RetG σ H h' v K := ret_mk3 hN h hv hk
theorem rH41zbM1 {σ : List Sg} {H h' : List Fam} {v : T} {K : T → List Fam → Prop} {H' : List Fam} {v' : T} {N : Nat} (hk : K v' H') (hN : H.length = N := by (try simp only [↓List.length_cons, ↓List.length_nil, Nat.reduceAdd]) <;> rfl) (h : givesF σ N H σ h' = some H' := by (try simp (maxSteps := 1000000) only [givesF, setF, updF, Fam.zeroth, Fam.rk, Ck.rk, C.rk, E.rk, T.rk, key, List.map_cons, List.map_nil, List.cons_append, List.nil_append, List.length_cons, List.length_nil, Option.map_some, Option.bind_some, Nat.reduceAdd, Nat.zero_add, Nat.add_zero, Nat.add_sub_cancel_left, Int.toNat_natCast, reps, List.all_cons, List.all_nil, C.flat, List.append_eq, Bool.not_true, Bool.and_true, Bool.or_false, Bool.or_self, Bool.not_false, List.append_nil, Bool.and_self, ↓tpG_rk, ↓cnG_rk, encEp_rk0]) <;> rfl) (hv : v.rk σ N = v' := by (try simp only [givesF, setF, updF, Fam.zeroth, Fam.rk, Ck.rk, C.rk, E.rk, T.rk, key, List.map_cons, List.map_nil, List.cons_append, List.nil_append, List.length_cons, List.length_nil, Option.map_some, Option.bind_some, Nat.reduceAdd, Nat.zero_add, Nat.add_zero, Nat.add_sub_cancel_left, Int.toNat_natCast, reps, List.all_cons, List.all_nil, C.flat, List.append_eq, Bool.not_true, Bool.and_true, Bool.or_false, Bool.or_self, Bool.not_false, List.append_nil, Bool.and_self, ↓tpG_rk, ↓cnG_rk, encEp_rk0]) <;> rfl) : RetG σ H h' v K := ret_mk3 hN h hv hk
theorem rH41zbM2 {σ : List Sg} {H h' : List Fam} {v : T} {K : T → List Fam → Prop} {H' : List Fam} {v' : T} {N : Nat} (hk : K v' H') (hN : H.length = N := by (try simp only [↓List.length_cons, ↓List.length_nil, Nat.reduceAdd]) <;> rfl) (h : givesF σ N H σ h' = some H' := by (try simp (maxSteps := 1000000) only [givesF, setF, updF, Fam.zeroth, Fam.rk, Ck.rk, C.rk, E.rk, T.rk, key, List.map_cons, List.map_nil, List.cons_append, List.nil_append, List.length_cons, List.length_nil, Option.map_some, Option.bind_some, Nat.reduceAdd, Nat.zero_add, Nat.add_zero, Nat.add_sub_cancel_left, Int.toNat_natCast, reps, List.all_cons, List.all_nil, C.flat, List.append_eq, Bool.not_true, Bool.and_true, Bool.or_false, Bool.or_self, Bool.not_false, List.append_nil, Bool.and_self, ↓tpG_rk, ↓cnG_rk, encEp_rk1]) <;> rfl) (hv : v.rk σ N = v' := by (try simp only [givesF, setF, updF, Fam.zeroth, Fam.rk, Ck.rk, C.rk, E.rk, T.rk, key, List.map_cons, List.map_nil, List.cons_append, List.nil_append, List.length_cons, List.length_nil, Option.map_some, Option.bind_some, Nat.reduceAdd, Nat.zero_add, Nat.add_zero, Nat.add_sub_cancel_left, Int.toNat_natCast, reps, List.all_cons, List.all_nil, C.flat, List.append_eq, Bool.not_true, Bool.and_true, Bool.or_false, Bool.or_self, Bool.not_false, List.append_nil, Bool.and_self, ↓tpG_rk, ↓cnG_rk, encEp_rk1]) <;> rfl) : RetG σ H h' v K := ret_mk3 hN h hv hk
theorem cH41zbM3 {P : Program} {F : Nat} {args : List T} {H : List Fam} {K : T → List Fam → Prop} {σ : List Sg} {nl : List Fam} {args0 : List T} {h0 : List Fam} {Q : T → List Fam → Prop} {H2 H1 : List Fam} {N n : Nat} (hc : Ctr P F args0 h0 Q) (hk : ∀ v h', Q v h' → capsP h' → RetG σ H2 h' v K) (hap : apart σ = true := by rfl) (hnl : nl.all nilB = true := by rfl) (h1 : H ++ nl = H1 := by first | exact List.append_nil _ | ((try simp only [List.cons_append, List.nil_append]) <;> rfl)) (hN : H1.length = N := by (try simp only [↓List.length_cons, ↓List.length_nil, Nat.reduceAdd]) <;> rfl) (hn : H.length = n := by (try simp only [↓List.length_cons, ↓List.length_nil, Nat.reduceAdd]) <;> rfl) (hH : givesF σ N H1 σ h0 = some H2 := by (try simp (maxSteps := 1000000) only [givesF, setF, updF, Fam.zeroth, Fam.rk, Ck.rk, C.rk, E.rk, T.rk, key, List.map_cons, List.map_nil, List.cons_append, List.nil_append, List.length_cons, List.length_nil, Option.map_some, Option.bind_some, Nat.reduceAdd, Nat.zero_add, Nat.add_zero, Nat.add_sub_cancel_left, Int.toNat_natCast, reps, List.all_cons, List.all_nil, C.flat, List.append_eq, Bool.not_true, Bool.and_true, Bool.or_false, Bool.or_self, Bool.not_false, List.append_nil, Bool.and_self, ↓tpG_rk, ↓cnG_rk]) <;> rfl) (hle : leS n H1 σ N σ h0 (belsK N (h0.map (Fam.rk σ N)) (argsK n args (args0.map (T.rk σ N)) True)) := by repeat' first | refine And.intro ?_ ?_ | exact xeC | fail) : CallK P F args H K := CallK.mk3 hc hap hnl h1 hN hn hH hle hk
set_option maxRecDepth 10000 in
set_option maxHeartbeats 8000000 in
theorem cOpenB (l : List UInt8) (hl : l.length ≤ 100000000) :
    Ctr Tryz.prog 13 [.c (.s (mkS l))] []
      fun v h => (bgE l ≠ 0 ∧ v = .t [.c .nilp, .c (.i .i64 (bgE l : Nat))] ∧ h = []) ∨ (bgE l = 0 ∧ ∃ X c, es X = (bgO l).L ∧ v = .t [.c (.p 0 0 0), .c (.i .i64 0)] ∧ h = bagH (bgO l) X c) := by
  have hz : (mkS l).size = l.length := rfl
  have hm : ({ data := #[82, 66, 65, 71, 49] } : ByteArray) = mkS magic := rfl
  have t1 : (mkS l).extract 0 (Int.toNat 5) = mkS (l.take 5) := by rw [mkS_ext]; rfl
  have t2 : (mkS l).extract (((mkS l).size : Int) - 5).toNat (mkS l).size = mkS (l.drop (l.length - 5)) := by
    rw [mkS_ext, hz, List.take_length, show ((l.length : Int) - 5).toNat = l.length - 5 by omega]
  have t3 : 18 ≤ l.length → (mkS l).extract (((mkS l).size : Int) - 13).toNat (((mkS l).size : Int) - 5).toNat = mkS ((l.drop (l.length - 13)).take 8) := fun h => by
    rw [mkS_ext, hz, show ((l.length : Int) - 5).toNat = (l.length - 13) + 8 by omega, show ((l.length : Int) - 13).toNat = l.length - 13 by omega, List.drop_take, Nat.add_sub_cancel_left]
  refine Ctr.mk' tbv mixed Tryz.func13 rfl rfl rfl (fun _ _ => by kernel_rfl) (by kernel_rfl) (by rfl) (by rfl) (by (repeat' first | refine And.intro ?_ ?_ | exact xeC | fail)) ?_
  repeat' (first | (fail_if_success (with_reducible refine xstp ?_)); first | ((with_reducible refine And.intro (fun (hb : _ = true) => ?_) (fun (hb : _ = false) => ?_)) <;> replace hb := xnC hb <;> (try first | exact xfC | exact bff hb (by assumption) | exact bff (by assumption) hb)) | ((with_reducible refine And.intro ?_ ?_); focus exact xoC) | (with_reducible intro hc; (try simp only [capsP, and_true] at hc); (try exact xfC)) | ((fail_if_success (with_reducible first | refine xgon ?_ | intro _)); (conv => whnf); (fail_if_success (fail_if_success (with_reducible first | refine xstp ?_ | refine xgon ?_ | intro _)))))
  · skip
    have hE : bgE l = 1 := if_pos (by omega)
    rw [hE]
    refine FinK.mk ⟨[], _, _, .inl ⟨by decide, rfl, rfl⟩, ?_⟩
    (repeat' first | refine And.intro ?_ ?_ | exact xeC | fail)
  · rw [t1, hm, mkS_inj] at hb
    have hE : bgE l = 2 := by unfold bgE; rw [if_neg (by omega), if_pos (fun q => hb q.1)]
    rw [hE]
    refine FinK.mk ⟨[], _, _, .inl ⟨by decide, rfl, rfl⟩, ?_⟩
    (repeat' first | refine And.intro ?_ ?_ | exact xeC | fail)
  · rw [t2, hm, mkS_inj] at hb
    have hE : bgE l = 2 := by unfold bgE; rw [if_neg (by omega), if_pos (fun q => hb q.2.1)]
    rw [hE]
    refine FinK.mk ⟨[], _, _, .inl ⟨by decide, rfl, rfl⟩, ?_⟩
    (repeat' first | refine And.intro ?_ ?_ | exact xeC | fail)
  rename_i hh1
  rw [t1, hm, mkS_inj] at hh1
  rw [t2, hm, mkS_inj] at hb
  rw [t3 (by omega)]
  have h8 : ((l.drop (l.length - 13)).take 8).length = 8 := by rw [List.length_take, List.length_drop]; omega
  have hA : bgA l = le8 ((l.drop (l.length - 13)).take 8) := rfl
  have hlt8 := le8_lt ((l.drop (l.length - 13)).take 8)
  rw [h8] at hlt8
  generalize hp8 : (l.drop (l.length - 13)).take 8 = p8 at *
  have hz8 : (mkS p8).size = 8 := h8
  refine LoopK.mk' {j : Nat // j ≤ 8}
    (fun ⟨j, _⟩ => ⟨[(0, .c (.s (mkS l))), (4, .c (.s (mkS p8))), (5, .c (.i .u64 (le8 (p8.drop j) : Nat))), (6, .c (.i .i64 ((j : Int) - 1)))], []⟩) (fun j => j.1)
    ⟨⟨8, Nat.le_refl _⟩, [], ?_⟩ ?_
  · (repeat' first | refine And.intro ?_ ?_ | exact xeC | fail)
    rw [List.drop_of_length_le (by omega)]
    rfl
  rintro ⟨j, hj⟩
  have hlj := le8_lt (p8.drop j)
  rw [List.length_drop, h8] at hlj
  have hw : IntKind.u64.wrap (((mkS l).size : Int) - 13) = ((mkS l).size : Int) - 13 := by rw [IntKind.wrap_u64]; omega
  cases j with
  | succ k =>
    have hdk := drop_consG p8 (k := k) (by omega)
    have ek : (((k + 1 : Nat) : Int) - 1).toNat = k := by omega
    have hlk : le8 (p8.drop (k + 1)) < 72057594037927936 := by
      have : 256 ^ (8 - (k + 1)) ≤ 256 ^ 7 := Nat.pow_le_pow_right (by omega) (by omega)
      omega
    repeat' (first | (fail_if_success (with_reducible refine xstp ?_)); first | ((with_reducible refine And.intro (fun (hb : _ = true) => ?_) (fun (hb : _ = false) => ?_)) <;> replace hb := xnC hb <;> (try first | exact xfC | exact bff hb (by assumption) | exact bff (by assumption) hb)) | ((with_reducible refine And.intro ?_ ?_); focus exact xoC) | (with_reducible intro hc; (try simp only [capsP, and_true] at hc); (try exact xfC)) | ((fail_if_success (with_reducible first | refine xgon ?_ | intro _)); (conv => whnf); (fail_if_success (fail_if_success (with_reducible first | refine xstp ?_ | refine xgon ?_ | intro _)))))
    rw [ek, getB (by omega)]
    refine ⟨⟨k, by omega⟩, [], by simp only; omega, ?_⟩
    (repeat' first | refine And.intro ?_ ?_ | exact xeC | fail)
    · rw [or8 _ _ hlk, hdk, le8_cons]
    · omega
  | zero =>
    rw [List.drop_zero] at hlj
    have hsl : ∀ a, a ≤ l.length - 13 → (mkS l).extract a ((l.length : Int) - 13).toNat = mkS ((l.take (l.length - 13)).drop a) := fun a _ => by rw [mkS_ext, show ((l.length : Int) - 13).toNat = l.length - 13 by omega]
    have hA0 : bgA l = le8 (p8.drop 0) := by rw [List.drop_zero]; exact hA
    have hXd : (bgX l).1.length ≤ 100000000 := by
      have := exaL_len ((l.take (l.length - 13)).drop (bgA l))
      rw [List.length_drop, List.length_take] at this
      unfold bgX
      omega
    repeat' (first | (fail_if_success (with_reducible refine xstp ?_)); first | ((with_reducible refine And.intro (fun (hb : _ = true) => ?_) (fun (hb : _ = false) => ?_)) <;> replace hb := xnC hb <;> (try first | exact xfC | exact bff hb (by assumption) | exact bff (by assumption) hb)) | ((with_reducible refine And.intro ?_ ?_); focus exact xoC) | (with_reducible intro hc; (try simp only [capsP, and_true] at hc); (try exact xfC)) | ((fail_if_success (with_reducible first | refine xgon ?_ | intro _)); (conv => whnf); (fail_if_success (fail_if_success (with_reducible first | refine xstp ?_ | refine xgon ?_ | intro _)))))
    · skip
      have hE : bgE l = 2 := by unfold bgE; rw [if_neg (by omega), if_pos (fun q => by have := q.2.2.1; omega)]
      rw [hE]
      refine FinK.mk ⟨[], _, _, .inl ⟨by decide, rfl, rfl⟩, ?_⟩
      (repeat' first | refine And.intro ?_ ?_ | exact xeC | fail)
    · skip
      have hE : bgE l = 2 := by unfold bgE; rw [if_neg (by omega), if_pos (fun q => by have := q.2.2.2; omega)]
      rw [hE]
      refine FinK.mk ⟨[], _, _, .inl ⟨by decide, rfl, rfl⟩, ?_⟩
      (repeat' first | refine And.intro ?_ ?_ | exact xeC | fail)
    rw [← hA0, Int.toNat_natCast, hz, hsl (bgA l) (by omega)]
    have hB : ((l.take (l.length - 13)).drop (bgA l)).length ≤ 100000000 := by rw [List.length_drop, List.length_take]; omega
    refine cH41zbM3 (σ := []) (nl := []) (cexa ((l.take (l.length - 13)).drop (bgA l)) hB) ?_
    rintro v h' ⟨rfl, rfl⟩ hcaps
    refine rH41zbM0 ?_
    have hX : exaL ((l.take (l.length - 13)).drop (bgA l)) = bgX l := rfl
    rw [hX]
    have hE1 : bgE l = if (bgX l).2 ≠ 0 then (bgX l).2 else if (ixL (mkS (bgX l).1)).2 = true ∧ ordE (ixL (mkS (bgX l).1)).1 (bgA l) then 0 else 2 := by
      unfold bgE
      rw [if_neg (by omega), if_neg (fun q => q ⟨hh1, by assumption, by omega, by omega⟩)]
    repeat' (first | (fail_if_success (with_reducible refine xstp ?_)); first | ((with_reducible refine And.intro (fun (hb : _ = true) => ?_) (fun (hb : _ = false) => ?_)) <;> replace hb := xnC hb <;> (try first | exact xfC | exact bff hb (by assumption) | exact bff (by assumption) hb)) | ((fail_if_success (with_reducible first | refine xgon ?_ | intro _)); (conv => whnf); (fail_if_success (fail_if_success (with_reducible first | refine xstp ?_ | refine xgon ?_ | intro _)))))
    · rw [if_pos (by omega)] at hE1
      rw [hE1]
      refine FinK.mk ⟨[], _, _, .inl ⟨by omega, rfl, rfl⟩, ?_⟩
      (repeat' first | refine And.intro ?_ ?_ | exact xeC | fail)
    rw [if_neg (by omega)] at hE1
    have hix := ixL_len (mkS (bgX l).1)
    have hzx : (mkS (bgX l).1).size = (bgX l).1.length := rfl
    refine cH41zbM3 (σ := []) (nl := []) (creadIndex (mkS (bgX l).1) (by omega)) ?_
    rintro v h' ⟨X, c, hes, hv, hh⟩ hcaps
    subst hv hh
    have hO := bgO_L l
    have hO1 : (bgO l).s = l := rfl
    have hO2 : (bgO l).ix = bgA l := rfl
    generalize hixl : ixL (mkS (bgX l).1) = r at hes hix hE1 hO ⊢
    obtain ⟨EL, ok⟩ := r
    clear hixl hX
    simp only at hes hix hE1 hO
    have hel : (es X).length = X.length := List.length_map _
    rw [hes] at hel
    have hi64 : IntKind.i64.wrap ((bgA l : Nat) : Int) = ((bgA l : Nat) : Int) := by rw [IntKind.wrap_i64]; omega
    refine rH41zbM1 ?_
    repeat' (first | (fail_if_success (with_reducible refine xstp ?_)); first | ((with_reducible refine And.intro (fun (hb : _ = true) => ?_) (fun (hb : _ = false) => ?_)) <;> replace hb := xnC hb <;> (try first | exact xfC | exact bff hb (by assumption) | exact bff (by assumption) hb)) | ((fail_if_success (with_reducible first | refine xgon ?_ | intro _)); (conv => whnf); (fail_if_success (fail_if_success (with_reducible first | refine xstp ?_ | refine xgon ?_ | intro _)))))
    · skip
      have hE : bgE l = 2 := by rw [hE1, if_neg (fun q => by rw [hb] at q; cases q.1)]
      rw [hE]
      refine FinK.mk ⟨[], _, _, .inl ⟨by decide, rfl, rfl⟩, ?_⟩
      (repeat' first | refine And.intro ?_ ?_ | exact xeC | fail)
    rw [hi64]
    refine cH41zbM3 (σ := [.whole 0, .whole 1, .whole 2]) (nl := []) (cordered X c (bgA l) (by omega) (fun y hy => by have := hix.2 y.e (by rw [← hes]; exact List.mem_map.2 ⟨y, hy, rfl⟩); exact ⟨by omega, fun t ht => by have := this.2 t ht; omega⟩)) ?_ (hle := by (repeat' first | refine And.intro ?_ ?_ | exact xeC | fail) <;> exact xmC2)
    rintro v h' ⟨rfl, rfl⟩ hcaps
    rw [hes]
    refine rH41zbM2 ?_
    repeat' (first | (fail_if_success (with_reducible refine xstp ?_)); first | ((with_reducible refine And.intro (fun (hb : _ = true) => ?_) (fun (hb : _ = false) => ?_)) <;> replace hb := xnC hb <;> (try first | exact xfC | exact bff hb (by assumption) | exact bff (by assumption) hb)) | ((fail_if_success (with_reducible first | refine xgon ?_ | intro _)); (conv => whnf); (fail_if_success (fail_if_success (with_reducible first | refine xstp ?_ | refine xgon ?_ | intro _)))))
    · skip
      have hE : bgE l = 2 := by rw [hE1, if_neg (fun q => hb q.2)]
      rw [hE]
      refine FinK.mk ⟨[], _, _, .inl ⟨by decide, rfl, rfl⟩, ?_⟩
      (repeat' first | refine And.intro ?_ ?_ | exact xeC | fail)
    rw [if_pos ⟨by assumption, hb⟩] at hE1
    rw [hi64]
    refine FinK.mk ⟨[3, 0, 1, 2], _, _, .inr ⟨hE1, X, c, hes.trans hO.symm, rfl, rfl⟩, ?_⟩
    (repeat' first | refine And.intro ?_ ?_ | exact xeC | fail)
    all_goals first
      | exact xmC2
      | skip
end Go.Proofs.YtkjkbpnhocjenaaGreat


namespace Go.Proofs.YtkjkbpnhocjenaaGreat
open Go.X
def mpU (U : List Tl) (k : Nat) : List Me := (List.range k).map fun i => (i, (U.getD i default).1, (U.getD i default).2)
theorem mpU_len (U : List Tl) (k : Nat) : (mpU U k).length = k := by simp [mpU]
theorem mpU_at {U : List Tl} {k i : Nat} (h : i < k) : (mpU U k).getD i default = (i, (U.getD i default).1, (U.getD i default).2) := by
  simp [mpU, List.getD, h]
theorem mpU_succ (U : List Tl) (k : Nat) : mpU U (k + 1) = mpU U k ++ [(k, (U.getD k default).1, (U.getD k default).2)] := by
  simp [mpU, List.range_succ]
theorem okTs_srt {U : List Tl} (h : okTs U) : SrtT U ∧ ∀ t ∈ U, 1 ≤ t.2 := by
  have hs : ∀ b, b < U.length → ∀ a, a < b → (U.getD a default).1 < (U.getD b default).1 := by
    intro b
    induction b with
    | zero => intro _ a ha; omega
    | succ b ih =>
      intro hb a ha
      have h1 := (h (b + 1) hb).2.1 (by omega)
      rw [Nat.add_sub_cancel] at h1
      rcases Nat.lt_or_ge a b with q | q
      · exact lt_tr (ih (by omega) a q) h1
      · obtain rfl : a = b := by omega
        exact h1
  refine ⟨?_, fun t ht => ?_⟩
  · unfold SrtT
    rw [List.pairwise_map, List.pairwise_iff_getElem]
    intro i j hi hj hij
    have := hs j hj i hij
    rw [getD_at hi, getD_at hj] at this
    exact this
  · obtain ⟨i, hi, e⟩ := List.mem_iff_getElem.1 ht
    have := (h i hi).2.2
    rw [getD_at hi, e] at this
    exact this
structure DOk (M : List Me) (U : List Tl) (l : List Rc) : Prop where
  ne : ∀ a b, a < b → b < M.length → (M.getD a default).2.1 ≠ (M.getD b default).2.1
  va : ∀ a, a < M.length → getT U (M.getD a default).2.1 = (M.getD a default).2.2 + cntL l (M.getD a default).2.1 ∧ 1 ≤ (M.getD a default).2.2
  al : ∀ t, (∀ a, a < M.length → (M.getD a default).2.1 ≠ t) → getT U t = cntL l t
theorem mpU_ne {U : List Tl} (h : SrtT U) {k : Nat} (hk : k ≤ U.length) : ∀ a b, a < b → b < (mpU U k).length → ((mpU U k).getD a default).2.1 ≠ ((mpU U k).getD b default).2.1 := by
  intro a b hab hb
  rw [mpU_len] at hb
  rw [mpU_at (by omega), mpU_at hb]
  have hn := srt_nodup h
  rw [List.nodup_iff_pairwise_ne, List.pairwise_map, List.pairwise_iff_getElem] at hn
  have := hn a b (by omega) (by omega) hab
  rw [getD_at (show a < U.length by omega), getD_at (show b < U.length by omega)]
  exact this
theorem getT_no {U : List Tl} {t : List UInt8} (h : t ∉ U.map Prod.fst) : getT U t = 0 := by
  unfold getT
  rw [List.find?_eq_none.2]
  intro p hp e
  exact h (List.mem_map.2 ⟨p, hp, by simpa using e⟩)
theorem DOk.init {U : List Tl} (h : SrtT U) (h1 : ∀ t ∈ U, 1 ≤ t.2) : DOk (mpU U U.length) U [] := by
  refine ⟨mpU_ne h (Nat.le_refl _), fun a ha => ?_, fun t ht => ?_⟩
  · rw [mpU_len] at ha
    rw [mpU_at ha]
    have hm : U.getD a default ∈ U := by rw [getD_at ha]; exact List.getElem_mem _
    exact ⟨getT_at (srt_nodup h) hm, h1 _ hm⟩
  · rw [getT_no]
    · rfl
    · intro hm
      obtain ⟨p, hp, e⟩ := List.mem_map.1 hm
      obtain ⟨i, hi, e2⟩ := List.mem_iff_getElem.1 hp
      refine ht i (by rw [mpU_len]; exact hi) ?_
      rw [mpU_at hi, getD_at hi, e2]
      exact e
theorem DOk.dec {M : List Me} {U : List Tl} {l : List Rc} {r : Rc} (h : DOk M U l) {i : Nat} (hi : i < M.length) (hk : (M.getD i default).2.1 = r.tp) (h2 : 2 ≤ (M.getD i default).2.2) :
    DOk (M.set i ((M.getD i default).1, r.tp, (M.getD i default).2.2 - 1)) U (l ++ [r]) := by
  have g2 : ∀ a, ((M.set i ((M.getD i default).1, r.tp, (M.getD i default).2.2 - 1)).getD a default).2.1 = (M.getD a default).2.1 := fun a => by
    rw [getD_set _ _ _ _ hi]; split
    · rename_i e; subst e; exact hk.symm
    · rfl
  refine ⟨fun a b hab hb => ?_, fun a ha => ?_, fun t ht => ?_⟩
  · rw [List.length_set] at hb
    rw [g2, g2]; exact h.ne a b hab hb
  · rw [List.length_set] at ha
    rw [g2, cntL_snoc, getD_set _ _ _ _ hi]
    have hv := h.va a ha
    by_cases e : a = i
    · subst e
      rw [if_pos rfl, if_pos hk]
      simp only
      omega
    · rw [if_neg e, if_neg]
      · simpa using hv
      · intro q
        rcases (by omega : a < i ∨ i < a) with hh | hh
        · exact h.ne a i hh hi (q.trans hk.symm)
        · exact h.ne i a hh ha (hk.trans q.symm)
  · have hne : t ≠ r.tp := fun e => ht i (by rwa [List.length_set]) (by rw [g2, hk, e])
    rw [cntL_snoc, if_neg hne]
    exact h.al t fun a ha => by rw [← g2]; exact ht a (by rwa [List.length_set])
theorem getD_cut {α : Type} [Inhabited α] (M : List α) {i : Nat} (hi : i < M.length) (q : Nat) : (M.take i ++ M.drop (i + 1)).getD q default = if q < i then M.getD q default else M.getD (q + 1) default := by
  simp only [List.getD]
  by_cases h : q < i
  · rw [if_pos h, List.getElem?_append_left (by rw [List.length_take]; omega), List.getElem?_take, if_pos h]
  · rw [if_neg h, List.getElem?_append_right (by rw [List.length_take]; omega), List.getElem?_drop, List.length_take, Nat.min_eq_left (by omega), show i + 1 + (q - i) = q + 1 by omega]
theorem cut_len {α : Type} (M : List α) {i : Nat} (hi : i < M.length) : (M.take i ++ M.drop (i + 1)).length = M.length - 1 := by
  simp only [List.length_append, List.length_take, List.length_drop]; omega
theorem DOk.del {M : List Me} {U : List Tl} {l : List Rc} {r : Rc} (h : DOk M U l) {i : Nat} (hi : i < M.length) (hk : (M.getD i default).2.1 = r.tp) (h2 : (M.getD i default).2.2 = 1) :
    DOk (M.take i ++ M.drop (i + 1)) U (l ++ [r]) := by
  have hl := cut_len M hi
  have other : ∀ a, a < M.length → a ≠ i → (M.getD a default).2.1 ≠ r.tp := fun a ha hne q => by
    rcases (by omega : a < i ∨ i < a) with hh | hh
    · exact h.ne a i hh hi (q.trans hk.symm)
    · exact h.ne i a hh ha (hk.trans q.symm)
  refine ⟨fun a b hab hb => ?_, fun a ha => ?_, fun t ht => ?_⟩
  · rw [hl] at hb
    rw [getD_cut M hi, getD_cut M hi]
    split
    · split
      · exact h.ne a b hab (by omega)
      · exact h.ne a (b + 1) (by omega) (by omega)
    · rw [if_neg (by omega)]
      exact h.ne (a + 1) (b + 1) (by omega) (by omega)
  · rw [hl] at ha
    rw [getD_cut M hi, cntL_snoc]
    split
    · rw [if_neg (other a (by omega) (by omega))]
      simpa using h.va a (by omega)
    · rw [if_neg (other (a + 1) (by omega) (by omega))]
      simpa using h.va (a + 1) (by omega)
  · by_cases e : t = r.tp
    · subst e
      have := h.va i hi
      rw [hk, h2] at this
      rw [cntL_snoc, if_pos rfl]
      omega
    · rw [cntL_snoc, if_neg e]
      refine h.al t fun a ha q => ?_
      rcases Nat.lt_or_ge a i with h3 | h3
      · exact ht a (by rw [hl]; omega) (by rw [getD_cut M hi, if_pos h3]; exact q)
      · by_cases h4 : a = i
        · subst h4; exact e (q.symm.trans hk)
        · exact ht (a - 1) (by rw [hl]; omega) (by rw [getD_cut M hi, if_neg (by omega), show a - 1 + 1 = a by omega]; exact q)
theorem cntL_take (l : List Rc) (k : Nat) (t : List UInt8) : cntL (l.take k) t ≤ cntL l t := by
  unfold cntL
  conv => rhs; rw [← List.take_append_drop k l]
  rw [List.filter_append, List.length_append]
  omega
theorem DOk.no {M : List Me} {U : List Tl} {l : List Rc} {k : Nat} (h : DOk M U (l.take k)) (hk : k < l.length) (hn : ∀ a, a < M.length → (M.getD a default).2.1 ≠ (l.getD k default).tp) : tal l ≠ U := by
  intro e
  have h1 := h.al _ hn
  have h2 := cntL_take l (k + 1) (l.getD k default).tp
  rw [take_snocG l hk, cntL_snoc, if_pos rfl] at h2
  rw [← e, (tal_inv l).2.2] at h1
  omega
theorem tl_ext {A B : List Tl} (hA : SrtT A) (hB : SrtT B) (h1 : ∀ t ∈ A, 1 ≤ t.2) (h2 : ∀ t ∈ B, 1 ≤ t.2) (h : ∀ t, getT A t = getT B t) : A = B := by
  have key : ∀ {A : List Tl}, SrtT A → (∀ t ∈ A, 1 ≤ t.2) → ∀ t, t ∈ A.map Prod.fst ↔ 0 < getT A t := by
    intro A hA h1 t
    constructor
    · intro hm
      obtain ⟨p, hp, rfl⟩ := List.mem_map.1 hm
      rw [getT_at (srt_nodup hA) hp]
      exact h1 p hp
    · intro hp
      by_cases hm : t ∈ A.map Prod.fst
      · exact hm
      · rw [getT_no hm] at hp; omega
  have e : A.map Prod.fst = B.map Prod.fst := srt_ext hA hB fun t => by rw [key hA h1, key hB h2, h]
  rw [tl_eta (srt_nodup hA), tl_eta (srt_nodup hB), e]
  exact List.map_congr_left fun t _ => by rw [h]
theorem tal_one {l : List Rc} : ∀ t ∈ tal l, 1 ≤ t.2 := fun t ht => by
  have h1 := getT_at (srt_nodup (tal_inv l).1) ht
  rw [(tal_inv l).2.2] at h1
  obtain ⟨r, hr, e⟩ := List.mem_map.1 (((tal_inv l).2.1 t.1).1 (List.mem_map.2 ⟨t, ht, rfl⟩))
  rw [← h1]
  unfold cntL
  exact List.length_pos_of_mem (List.mem_filter.2 ⟨hr, by simpa using e⟩)
theorem DOk.fin {M : List Me} {U : List Tl} {l : List Rc} (h : DOk M U l) (hU : SrtT U) (h1 : ∀ t ∈ U, 1 ≤ t.2) : tal l = U ↔ M.length = 0 := by
  constructor
  · intro e
    rcases Nat.eq_zero_or_pos M.length with h0 | h0
    · exact h0
    · have := h.va 0 h0
      rw [← e, (tal_inv l).2.2] at this
      omega
  · intro h0
    refine tl_ext (tal_inv l).1 hU tal_one h1 fun t => ?_
    rw [(tal_inv l).2.2]
    exact (h.al t fun a ha => by omega).symm
end Go.Proofs.YtkjkbpnhocjenaaGreat


namespace Go.Proofs.YtkjkbpnhocjenaaGreat
open Go.Shelf
def lays194_ren : Go.Shelf.Ren := ⟨fun | 194 => 50 | n => n, fun | 31 => 61 | 9 => 9 | 3 => 3 | 4 => 4 | 0 => 0 | n => n, fun | n => n⟩
theorem lays194 : Go.Proofs.Lays.n194 Tryz.prog lays194_ren := {
  mixed := by kernel_rfl
  f194 := Tryz.func50.trans (congrArg some (by kernel_rfl))
  t0 := Tryz.underlying0
  a0 := Tryz.isAgg0
  z0 := Tryz.sizeOf0
  v0 := Tryz.zeroValue0
  t3 := Tryz.underlying3
  a3 := Tryz.isAgg3
  z3 := Tryz.sizeOf3
  v3 := Tryz.zeroValue3
  t4 := Tryz.underlying4
  a4 := Tryz.isAgg4
  z4 := Tryz.sizeOf4
  v4 := Tryz.zeroValue4
  t9 := Tryz.underlying9
  a9 := Tryz.isAgg9
  z9 := Tryz.sizeOf9
  v9 := Tryz.zeroValue9
  t31 := Tryz.underlying61
  a31 := Tryz.isAgg61
  z31 := Tryz.sizeOf61
  v31 := Tryz.zeroValue61 }
open Go.X
def cmpS (l : List (List UInt8)) : List (List UInt8) := Lib.compact l ++ List.replicate (l.length - (Lib.compact l).length) []
theorem cmpLaw : TurnLaw Tryz.prog 50 encStr cmpS (fun l => (Lib.compact l).length) :=
  ⟨fun blk off cap zs w h1 h2 h3 h4 => (Any.slices_Compact_string lays194 blk off cap zs w h1 (by omega) h4).mono fun e w' h => by
      obtain ⟨rfl, q, rfl⟩ := h
      exact ⟨rfl, q, #[], by unfold Go.Sort.grow cmpS; simp only [Array.append_empty]⟩,
   fun p cap w => Any.slices_Compact_string_empty lays194 p cap w,
   fun l => by have := Lib.compact_length_le l; simp [cmpS]; omega,
   fun l => Lib.compact_length_le l⟩
theorem cCompact (zs : List (List UInt8)) (c : Nat) (hz : zs.length < 4611686018427387904) :
    Ctr Tryz.prog 50 [.c (.sl 0 0 1 0 zs.length c)] [.one (stR true zs c)] fun v h => v = .c (.sl 0 0 1 0 (Lib.compact zs).length c) ∧ h = [.one (.row true false 9 1 zs.length c (rowOf encSt (cmpS zs)))] :=
  turn_ctr cmpLaw (fun _ _ => by kernel_rfl) (fun x => .s (mkS x)) (fun _ _ => rfl) (fun _ => rfl) false 9 zs c hz
end Go.Proofs.YtkjkbpnhocjenaaGreat


namespace Go.Proofs.YtkjkbpnhocjenaaGreat
open Go.X
theorem cmp_inv (d : Array (List UInt8)) (hs : ∀ i j, i ≤ j → j < d.size → d[i]! ≤ d[j]!) : ∀ m, m ≤ d.size → (Lib.compactUpTo d m).Pairwise (· < ·) ∧ ∀ x, x ∈ Lib.compactUpTo d m ↔ ∃ j, j < m ∧ d[j]! = x
  | 0, _ => by simp [Lib.compactUpTo]
  | m + 1, hm => by
    obtain ⟨h1, h2⟩ := cmp_inv d hs m (by omega)
    rw [Lib.compactUpTo_succ]
    by_cases hk : Lib.keeps d m = true
    · rw [if_pos hk]
      refine ⟨List.pairwise_append.2 ⟨h1, by simp, fun x hx y hy => ?_⟩, fun x => ?_⟩
      · obtain ⟨j, hj, rfl⟩ := (h2 x).1 hx
        rw [List.mem_singleton.1 hy]
        have hne : d[m]! ≠ d[m - 1]! := by
          rcases (of_decide_eq_true hk : m = 0 ∨ d[m]! ≠ d[m - 1]!) with h | h
          · omega
          · exact h
        have ha := hs j (m - 1) (by omega) (by omega)
        have hb := hs (m - 1) m (by omega) (by omega)
        rcases lt_tri d[j]! d[m]! with q | q | q
        · exact q
        · exfalso
          rw [q] at ha
          exact hne (List.le_antisymm ha hb)
        · exact absurd q (List.not_lt.2 (List.le_trans ha hb))
      · rw [List.mem_append, h2, List.mem_singleton]
        constructor
        · rintro (⟨j, hj, e⟩ | e)
          · exact ⟨j, by omega, e⟩
          · exact ⟨m, by omega, e.symm⟩
        · rintro ⟨j, hj, e⟩
          rcases Nat.lt_or_ge j m with h | h
          · exact .inl ⟨j, h, e⟩
          · obtain rfl : j = m := by omega
            exact .inr e.symm
    · rw [if_neg hk, List.append_nil]
      refine ⟨h1, fun x => ?_⟩
      rw [h2]
      have hk2 : ¬ (m = 0 ∨ d[m]! ≠ d[m - 1]!) := fun q => hk (decide_eq_true q)
      constructor
      · rintro ⟨j, hj, e⟩
        exact ⟨j, by omega, e⟩
      · rintro ⟨j, hj, e⟩
        rcases Nat.lt_or_ge j m with h | h
        · exact ⟨j, h, e⟩
        · obtain rfl : j = m := by omega
          have h0 : 0 < j := Nat.pos_of_ne_zero fun q => hk2 (.inl q)
          have he : d[j]! = d[j - 1]! := Decidable.of_not_not fun q => hk2 (.inr q)
          exact ⟨j - 1, by omega, by rw [← he]; exact e⟩
theorem cmp_srt {l : List (List UInt8)} (h : l.Pairwise (· ≤ ·)) : (Lib.compact l).Pairwise (· < ·) ∧ ∀ x, x ∈ Lib.compact l ↔ x ∈ l := by
  have hg : ∀ i, i < l.length → l.toArray[i]! = l.getD i default := fun i hi => by simp [List.getD, hi]
  have hs : ∀ i j, i ≤ j → j < l.toArray.size → l.toArray[i]! ≤ l.toArray[j]! := by
    intro i j hij hj
    have hj : j < l.length := by simpa using hj
    rw [hg i (by omega), hg j hj]
    rcases Nat.lt_or_ge i j with q | q
    · have := List.pairwise_iff_getElem.1 h i j (by omega) hj q
      rw [getD_at (by omega), getD_at hj]
      exact this
    · obtain rfl : i = j := by omega
      exact List.le_refl _
  obtain ⟨h1, h2⟩ := cmp_inv l.toArray hs l.length (by simp)
  refine ⟨h1, fun x => (h2 x).trans ?_⟩
  constructor
  · rintro ⟨j, hj, e⟩
    rw [hg j hj, getD_at hj] at e
    rw [← e]
    exact List.getElem_mem _
  · intro hx
    obtain ⟨j, hj, e⟩ := List.mem_iff_getElem.1 hx
    exact ⟨j, hj, by rw [hg j hj, getD_at hj]; exact e⟩
theorem srtS_le (O : List (List UInt8)) : (srtS O).Pairwise (· ≤ ·) := by
  unfold srtS
  have h1 : (O.mergeSort fun x y => decide (x ≤ y)).Pairwise fun a b => decide (a ≤ b) = true := List.pairwise_mergeSort (fun a b c => by simpa using List.le_trans) (fun a b => by simpa using List.le_total a b) O
  exact h1.imp fun {a b} h => by simpa using h
def flatT (b : Bg) : List Tl := b.L.flatMap En.T
def foldT (F : List Tl) : List Tl := F.foldl (fun a t => talA a t.1 t.2) []
theorem foldT_snoc (F : List Tl) (t : Tl) : foldT (F ++ [t]) = talA (foldT F) t.1 t.2 := by simp [foldT]
theorem foldT_inv (F : List Tl) : SrtT (foldT F) ∧ ∀ t, t ∈ (foldT F).map Prod.fst ↔ t ∈ F.map Prod.fst := by
  suffices ∀ k, k ≤ F.length → SrtT (foldT (F.take k)) ∧ ∀ t, t ∈ (foldT (F.take k)).map Prod.fst ↔ t ∈ (F.take k).map Prod.fst by
    have := this F.length (Nat.le_refl _)
    rwa [List.take_length] at this
  intro k
  induction k with
  | zero => intro _; simp [foldT, SrtT]
  | succ k ih =>
    intro hk
    obtain ⟨h1, h2⟩ := ih (by omega)
    rw [take_snocG F (by omega), foldT_snoc]
    refine ⟨talA_srt h1, fun t => ?_⟩
    rw [talA_mem, h2, List.map_append, List.mem_append]
    simp only [List.map_cons, List.map_nil, List.mem_singleton]
    exact Or.comm
/-- The topics of a bag. -/
def topB (b : Bg) : List (List UInt8) := (allT b).map Prod.fst
theorem topB_of (b : Bg) : Lib.compact (srtS ((flatT b).map Prod.fst)) = topB b := by
  have h := cmp_srt (srtS_le ((flatT b).map Prod.fst))
  refine srt_ext h.1 (foldT_inv (flatT b)).1 fun x => ?_
  rw [h.2, srtS_mem]
  exact ((foldT_inv (flatT b)).2 x).symm
def cntF (F : List Tl) (t : List UInt8) : Nat := (F.map fun p => if t = [] ∨ p.1 = t then p.2 else 0).sum
theorem cntF_snoc (F : List Tl) (p : Tl) (t : List UInt8) : cntF (F ++ [p]) t = cntF F t + if t = [] ∨ p.1 = t then p.2 else 0 := by simp [cntF]
theorem cntF_app (F G : List Tl) (t : List UInt8) : cntF (F ++ G) t = cntF F t + cntF G t := by simp [cntF]
theorem cntF_talA (t u : List UInt8) (n : Nat) : ∀ F, cntF (talA F u n) t = cntF F t + if t = [] ∨ u = t then n else 0
  | [] => by simp [talA, cntF]
  | (v, m) :: F => by
    have ih := cntF_talA t u n F
    unfold talA
    split
    · simp only [cntF, List.map_cons, List.sum_cons]
      omega
    · split
      · rename_i h
        subst h
        simp only [cntF, List.map_cons, List.sum_cons]
        split <;> omega
      · simp only [cntF, List.map_cons, List.sum_cons] at ih ⊢
        omega
end Go.Proofs.YtkjkbpnhocjenaaGreat


namespace Go.Proofs.YtkjkbpnhocjenaaGreat
open Go.X
set_option linter.unusedSimpArgs false
set_option linter.unusedVariables false
open P4
open P5
structure BOk (b : Bg) : Prop where
  len : b.s.length ≤ 100000000
  ix : b.ix ≤ b.s.length
  ord : ordE b.L b.ix
  n : b.L.length ≤ 1000000000
  flat : (flatT b).length ≤ 1000000
  sz : ∀ y ∈ b.L, y.T.length ≤ 1000000000 ∧ ∀ t ∈ y.T, t.1.length ≤ 40 ∧ t.2 ≤ 1099511627776
theorem BOk.at {b : Bg} (h : BOk b) {k : Nat} (hk : k < b.L.length) : okE1 b.L b.ix k ∧ (b.L.getD k default).off ≤ endE b k ∧ endE b k ≤ b.s.length ∧ (b.L.getD k default).T.length ≤ 1000000000 ∧ ∀ t ∈ (b.L.getD k default).T, t.1.length ≤ 40 ∧ t.2 ≤ 1099511627776 := by
  have h1 := h.ord.2 k hk
  have h2 := h.sz (b.L.getD k default) (by rw [getD_at hk]; exact List.getElem_mem _)
  have h3 := h.ix
  refine ⟨h1, ?_, ?_, h2.1, h2.2⟩
  · unfold endE
    split
    · rename_i h4
      have := (h.ord.2 (k + 1) h4).1.2.1 (by omega)
      rw [Nat.add_sub_cancel] at this
      omega
    · have := h1.1.2.2
      omega
  · unfold endE
    split
    · rename_i h4
      have := (h.ord.2 (k + 1) h4).1.2.2
      omega
    · exact h3
theorem chE_eq {b : Bg} {k : Nat} {xs : List UInt8} {xe : Nat} {R : List Rc} (hx : chX b k = (xs, xe)) (hR : recL (mkS xs) = R) :
    chE b k = (if xe ≠ 0 then xe else if 0 < R.length ∧ (R.getD 0 default).at_ = (b.L.getD k default).fi ∧ (R.getD (R.length - 1) default).at_ = (b.L.getD k default).la ∧ tal R = (b.L.getD k default).T then 0 else 2) ∧ chL b k = if chE b k = 0 then R else [] := by
  have h1 : chR1 b k = R := by unfold chR1; rw [hx]; exact hR
  have h2 : chOk b k ↔ (0 < R.length ∧ (R.getD 0 default).at_ = (b.L.getD k default).fi ∧ (R.getD (R.length - 1) default).at_ = (b.L.getD k default).la ∧ tal R = (b.L.getD k default).T) := by unfold chOk; rw [h1]
  refine ⟨?_, ?_⟩
  · unfold chE
    rw [hx]
    simp only
    by_cases h3 : xe ≠ 0
    · rw [if_pos h3, if_pos h3]
    · rw [if_neg h3, if_neg h3]
      by_cases h4 : chOk b k
      · rw [if_pos h4, if_pos (h2.1 h4)]
      · rw [if_neg h4, if_neg (fun q => h4 (h2.2 q))]
  · unfold chL
    rw [h1]
theorem recF_len {s : ByteArray} : ∀ (n a : Nat) (la : Int) (L : List Rc), a ≤ s.size → recF s n a la = some L → L.length ≤ s.size - a
  | 0, a, la, L, _, h => by simp [recF] at h
  | n + 1, a, la, L, ha, h => by
    unfold recF at h
    split at h
    · cases h; simp
    · split at h
      · rename_i ho
        have h1 := rdPl_pos ho.1
        have h2 := rdPl_mono (e := 0) ha
        cases hq : recF s n (rdPl s a 0).2.1 ((rdAt s a 0).1 : Nat) with
        | none => rw [hq] at h; cases h
        | some M =>
          rw [hq] at h
          cases h
          have := recF_len n _ _ M h2.2.1 hq
          simp only [List.length_cons]
          omega
      · cases h
theorem recL_len (s : ByteArray) : (recL s).length ≤ s.size := by
  unfold recL
  split
  · cases hq : recP s (rdU s 0 0).2.1 0 with
    | none => simp
    | some L =>
      have h1 := rdU_le (s := s) (a := 0) (e := 0) (Nat.zero_le _)
      have := recF_len _ _ _ L h1.1 hq
      simp only [Option.getD_some]
      omega
  · simp
theorem mpR_set {M : List Me} {b : Nat} (hb : b < M.length) {t : List UInt8} {n : Nat} {z : Int} (hz : z = (n : Nat)) (j : Nat) (_ : j < (M.set b ((M.getD b default).1, t, n)).length) :
    (if j = b then ((M.getD b default).1, Key.s (mkS t), E.c (.i .i64 z)) else ((M.getD j default).1, Key.s (mkS (M.getD j default).2.1), E.c (.i .i64 ((M.getD j default).2.2 : Nat)))) =
      (((M.set b ((M.getD b default).1, t, n)).getD j default).1, Key.s (mkS ((M.set b ((M.getD b default).1, t, n)).getD j default).2.1), E.c (.i .i64 (((M.set b ((M.getD b default).1, t, n)).getD j default).2.2 : Nat))) := by
  subst hz
  rw [getD_set _ _ _ _ hb]
  by_cases e : j = b
  · subst e; rw [if_pos rfl, if_pos rfl]
  · rw [if_neg e, if_neg e]
theorem mpR_new {M : List Me} {ck : Nat} {t : List UInt8} {n : Nat} (j : Nat) (hj : j < (M ++ [(ck, t, n)]).length) :
    (if j = M.length then (ck, Key.s (mkS t), E.c (.i .i64 (n : Nat))) else ((M.getD j default).1, Key.s (mkS (M.getD j default).2.1), E.c (.i .i64 ((M.getD j default).2.2 : Nat)))) =
      (((M ++ [(ck, t, n)]).getD j default).1, Key.s (mkS ((M ++ [(ck, t, n)]).getD j default).2.1), E.c (.i .i64 (((M ++ [(ck, t, n)]).getD j default).2.2 : Nat))) := by
  rw [getD_sn hj]
  by_cases e : j = M.length
  · subst e; rw [if_pos rfl, if_pos rfl]
  · rw [if_neg e, if_neg e]
theorem sk_s (x y : ByteArray) : (Key.s x).sk (Key.s y) = true := rfl
theorem mpR_cut {M : List Me} {a : Nat} (ha : a < M.length) {x : Nat × Key × E} (j : Nat) :
    (if j < a then (if j = a then x else ((M.getD j default).1, Key.s (mkS (M.getD j default).2.1), E.c (.i .i64 ((M.getD j default).2.2 : Nat)))) else (if j + 1 = a then x else ((M.getD (j + 1) default).1, Key.s (mkS (M.getD (j + 1) default).2.1), E.c (.i .i64 ((M.getD (j + 1) default).2.2 : Nat))))) =
      (((M.take a ++ M.drop (a + 1)).getD j default).1, Key.s (mkS ((M.take a ++ M.drop (a + 1)).getD j default).2.1), E.c (.i .i64 (((M.take a ++ M.drop (a + 1)).getD j default).2.2 : Nat))) := by
  rw [getD_cut M ha]
  by_cases h : j < a
  · rw [if_pos h, if_pos h, if_neg (by omega)]
  · rw [if_neg h, if_neg h, if_neg (by omega)]
theorem rH41zbN0 {σ : List Sg} {H h' : List Fam} {v : T} {K : T → List Fam → Prop} {H' : List Fam} {v' : T} {N : Nat} (hk : K v' H') (hN : H.length = N := by (try simp only [↓List.length_cons, ↓List.length_nil, Nat.reduceAdd]) <;> rfl) (h : givesF σ N H σ h' = some H' := by (try simp (maxSteps := 1000000) only [givesF, setF, updF, Fam.zeroth, Fam.rk, Ck.rk, C.rk, E.rk, T.rk, key, List.map_cons, List.map_nil, List.cons_append, List.nil_append, List.length_cons, List.length_nil, Option.map_some, Option.bind_some, Nat.reduceAdd, Nat.zero_add, Nat.add_zero, Nat.add_sub_cancel_left, Int.toNat_natCast, reps, List.all_cons, List.all_nil, C.flat, List.append_eq, Bool.not_true, Bool.and_true, Bool.or_false, Bool.or_self, Bool.not_false, List.append_nil, Bool.and_self, ↓tpG_rk, ↓cnG_rk]) <;> rfl) (hv : v.rk σ N = v' := by (try simp only [givesF, setF, updF, Fam.zeroth, Fam.rk, Ck.rk, C.rk, E.rk, T.rk, key, List.map_cons, List.map_nil, List.cons_append, List.nil_append, List.length_cons, List.length_nil, Option.map_some, Option.bind_some, Nat.reduceAdd, Nat.zero_add, Nat.add_zero, Nat.add_sub_cancel_left, Int.toNat_natCast, reps, List.all_cons, List.all_nil, C.flat, List.append_eq, Bool.not_true, Bool.and_true, Bool.or_false, Bool.or_self, Bool.not_false, List.append_nil, Bool.and_self, ↓tpG_rk, ↓cnG_rk]) <;> rfl) : RetG σ H h' v K := ret_mk3 hN h hv hk
theorem cH41zbN1 {P : Program} {F : Nat} {args : List T} {H : List Fam} {K : T → List Fam → Prop} {σ : List Sg} {nl : List Fam} {args0 : List T} {h0 : List Fam} {Q : T → List Fam → Prop} {H2 H1 : List Fam} {N n : Nat} (hc : Ctr P F args0 h0 Q) (hk : ∀ v h', Q v h' → capsP h' → RetG σ H2 h' v K) (hap : apart σ = true := by rfl) (hnl : nl.all nilB = true := by rfl) (h1 : H ++ nl = H1 := by first | exact List.append_nil _ | ((try simp only [List.cons_append, List.nil_append]) <;> rfl)) (hN : H1.length = N := by (try simp only [↓List.length_cons, ↓List.length_nil, Nat.reduceAdd]) <;> rfl) (hn : H.length = n := by (try simp only [↓List.length_cons, ↓List.length_nil, Nat.reduceAdd]) <;> rfl) (hH : givesF σ N H1 σ h0 = some H2 := by (try simp (maxSteps := 1000000) only [givesF, setF, updF, Fam.zeroth, Fam.rk, Ck.rk, C.rk, E.rk, T.rk, key, List.map_cons, List.map_nil, List.cons_append, List.nil_append, List.length_cons, List.length_nil, Option.map_some, Option.bind_some, Nat.reduceAdd, Nat.zero_add, Nat.add_zero, Nat.add_sub_cancel_left, Int.toNat_natCast, reps, List.all_cons, List.all_nil, C.flat, List.append_eq, Bool.not_true, Bool.and_true, Bool.or_false, Bool.or_self, Bool.not_false, List.append_nil, Bool.and_self, ↓tpG_rk, ↓cnG_rk]) <;> rfl) (hle : leS n H1 σ N σ h0 (belsK N (h0.map (Fam.rk σ N)) (argsK n args (args0.map (T.rk σ N)) True)) := by repeat' first | refine And.intro ?_ ?_ | exact xeC | fail) : CallK P F args H K := CallK.mk3 hc hap hnl h1 hN hn hH hle hk
set_option maxRecDepth 10000 in
set_option maxHeartbeats 16000000 in
theorem cchunk (b : Bg) (X : List Ep) (c k : Nat) (hb : BOk b) (hX : es X = b.L) (hk : k < X.length) :
    Ctr Tryz.prog 48 [.c (.p 0 0 0), .c (.i .i64 (k : Nat))] (bagH b X c)
      fun v h => ∃ c', v = .t [.c (.sl 4 0 3 0 (chL b k).length c'), .c (.i .i64 (chE b k : Nat))] ∧ h = bagH b X c ++ [.one (rcR true (chL b k) c')] := by
  have hLl : b.L.length = X.length := by rw [← hX]; exact List.length_map _
  have hbk := hb.at (k := k) (by omega)
  have hgk : ∀ i, b.L.getD i default = (X.getD i default).e := fun i => by rw [← hX, getEs]
  rw [hgk] at hbk
  have hn := hb.n
  have hlen := hb.len
  have hz : (mkS b.s).size = b.s.length := rfl
  have e2 : 0 + ((k : Nat) : Int).toNat = k := by omega
  have e3 : 0 + (((k : Nat) : Int) + 1).toNat = k + 1 := by omega
  have hend : endE b k = if k + 1 < X.length then (X.getD (k + 1) default).e.off else b.ix := by unfold endE; rw [hLl, hgk]
  have hoff : (X.getD k default).e.off ≤ b.s.length := by omega
  refine Ctr.mk' tbv mixed Tryz.func48 rfl rfl rfl (fun _ _ => by kernel_rfl) (by kernel_rfl) (by rfl) (by rfl) (by (repeat' first | refine And.intro ?_ ?_ | exact xeC | fail) <;> exact xmC2) ?_
  generalize hxx : chX b k = x
  obtain ⟨xs, xe⟩ := x
  generalize hR : recL (mkS xs) = R
  obtain ⟨hE1, hL1⟩ := chE_eq hxx hR
  rw [hgk] at hE1
  have hxx2 : exaL ((b.s.take (endE b k)).drop (X.getD k default).e.off) = (xs, xe) := by rw [← hgk]; exact hxx
  have hxl := exaL_len ((b.s.take (endE b k)).drop (X.getD k default).e.off)
  rw [hxx2, List.length_drop, List.length_take] at hxl
  simp only at hxl
  have hof2 : k + 1 < X.length → (X.getD (0 + ((k : Nat) : Int).toNat) default).e.off ≤ (X.getD (0 + (((k : Nat) : Int) + 1).toNat) default).e.off ∧ (X.getD (0 + (((k : Nat) : Int) + 1).toNat) default).e.off ≤ b.s.length := fun h => by
    rw [e2, e3]; rw [if_pos h] at hend; omega
  have hof3 : ¬ k + 1 < X.length → (X.getD (0 + ((k : Nat) : Int).toNat) default).e.off ≤ b.ix ∧ b.ix ≤ b.s.length := fun h => by
    rw [e2]; rw [if_neg h] at hend; omega
  have hext : ∀ a d, (mkS b.s).extract a d = mkS ((b.s.take d).drop a) := fun a d => mkS_ext _ _ _
  have hXl := ixG_at (ck := tpC) hk
  have g1 : ixG tpC X k = stR true ((X.getD k default).e.T.map Prod.fst) (X.getD k default).c1 := ixG_at hk
  have g2 : ixG cnC X k = ntR true ((X.getD k default).e.T.map Prod.snd) (X.getD k default).c2 := ixG_at hk
  have hB : ((b.s.take (endE b k)).drop (X.getD k default).e.off).length ≤ 100000000 := by rw [List.length_drop, List.length_take]; omega
  have hTk := hbk.2.2.2.1
  have hTs := okTs_srt (by have := hbk.1.2.2; rw [hgk] at this; exact this)
  have hTc := hbk.2.2.2.2
  repeat' (first | (fail_if_success (with_reducible refine xstp ?_)); first | ((with_reducible refine And.intro (fun (hb : _ = true) => ?_) (fun (hb : _ = false) => ?_)) <;> replace hb := xnC hb <;> (try first | exact xfC | exact bff hb (by assumption) | exact bff (by assumption) hb)) | ((with_reducible refine And.intro ?_ ?_); focus exact xoC) | (with_reducible intro hc; (try simp only [capsP, and_true] at hc); (try exact xfC)) | ((fail_if_success (with_reducible first | refine xgon ?_ | intro _)); (conv => whnf); (fail_if_success (fail_if_success (with_reducible first | refine xstp ?_ | refine xgon ?_ | intro _)))))
  all_goals (
    first
      | (rw [e2, e3, Int.toNat_natCast, Int.toNat_natCast, hext, ← (show endE b k = (X.getD (k + 1) default).e.off by rw [hend, if_pos (by omega)])]; done)
      | (rw [e2, Int.toNat_natCast, Int.toNat_natCast, hext, ← (show endE b k = b.ix by rw [hend, if_neg (by omega)])]; done)
      | rw [e2, e3, Int.toNat_natCast, Int.toNat_natCast, hext, ← (show endE b k = (X.getD (k + 1) default).e.off by rw [hend, if_pos (by omega)])]
      | rw [e2, Int.toNat_natCast, Int.toNat_natCast, hext, ← (show endE b k = b.ix by rw [hend, if_neg (by omega)])]
    refine cH41zbN1 (σ := []) (nl := []) (cexa ((b.s.take (endE b k)).drop (X.getD k default).e.off) hB) ?_ (hle := by (repeat' first | refine And.intro ?_ ?_ | exact xeC | fail) <;> exact xmC2)
    rintro v h' ⟨rfl, rfl⟩ hcaps
    rw [hxx2]
    refine rH41zbN0 ?_
    repeat' (first | (fail_if_success (with_reducible refine xstp ?_)); first | ((with_reducible refine And.intro (fun (hb : _ = true) => ?_) (fun (hb : _ = false) => ?_)) <;> replace hb := xnC hb <;> (try first | exact xfC | exact bff hb (by assumption) | exact bff (by assumption) hb)) | ((fail_if_success (with_reducible first | refine xgon ?_ | intro _)); (conv => whnf); (fail_if_success (fail_if_success (with_reducible first | refine xstp ?_ | refine xgon ?_ | intro _)))))
    · rw [if_pos (by omega)] at hE1
      have hL : chL b k = [] := by rw [hL1, if_neg (by omega)]
      rw [hL, hE1]
      refine FinK.mk ⟨[0, 1, 2, 3, 99], _, _, ⟨0, rfl, rfl⟩, ?_⟩
      (repeat' first | refine And.intro ?_ ?_ | exact xeC | fail)
      all_goals first
        | exact xmC2
        | skip
    rw [if_neg (by omega)] at hE1
    refine cH41zbN1 (σ := []) (nl := []) (crecs (mkS xs) (by show xs.length ≤ _; omega)) ?_ (hle := by (repeat' first | refine And.intro ?_ ?_ | exact xeC | fail) <;> exact xmC2)
    rintro v h' ⟨c3, rfl, rfl⟩ hcaps
    rw [hR]
    refine rH41zbN0 ?_
    have hRl : R.length ≤ 100000000 := by rw [← hR]; have := recL_len (mkS xs); have : (mkS xs).size = xs.length := rfl; omega
    have e4 : 0 < R.length → 0 + ((R.length : Int) - 1).toNat = R.length - 1 := fun h => by omega
    repeat' (first | (fail_if_success (with_reducible refine xstp ?_)); first | ((with_reducible refine And.intro (fun (hb : _ = true) => ?_) (fun (hb : _ = false) => ?_)) <;> replace hb := xnC hb <;> (try first | exact xfC | exact bff hb (by assumption) | exact bff (by assumption) hb)) | ((with_reducible refine And.intro ?_ ?_); focus exact xoC) | ((fail_if_success (with_reducible first | refine xgon ?_ | intro _)); (conv => whnf); (fail_if_success (fail_if_success (with_reducible first | refine xstp ?_ | refine xgon ?_ | intro _)))))
    · skip
      have hE : chE b k = 2 := by rw [hE1, if_neg (fun q => hb q.1)]
      have hL : chL b k = [] := by rw [hL1, if_neg (by rw [hE]; decide)]
      rw [hE, hL]
      refine FinK.mk ⟨[0, 1, 2, 3, 99], _, _, ⟨0, rfl, rfl⟩, ?_⟩
      (repeat' first | refine And.intro ?_ ?_ | exact xeC | fail)
      all_goals first
        | exact xmC2
        | skip
    · skip
      have hE : chE b k = 2 := by rw [hE1, if_neg (fun q => hb q.2.1)]
      have hL : chL b k = [] := by rw [hL1, if_neg (by rw [hE]; decide)]
      rw [hE, hL]
      refine FinK.mk ⟨[0, 1, 2, 3, 99], _, _, ⟨0, rfl, rfl⟩, ?_⟩
      (repeat' first | refine And.intro ?_ ?_ | exact xeC | fail)
      all_goals first
        | exact xmC2
        | skip
    · skip
      have hE : chE b k = 2 := by rw [hE1, if_neg (fun q => hb (by rw [show ((R.length : Int) - 1).toNat = R.length - 1 by omega]; exact q.2.2.1))]
      have hL : chL b k = [] := by rw [hL1, if_neg (by rw [hE]; decide)]
      rw [hE, hL]
      refine FinK.mk ⟨[0, 1, 2, 3, 99], _, _, ⟨0, rfl, rfl⟩, ?_⟩
      (repeat' first | refine And.intro ?_ ?_ | exact xeC | fail)
      all_goals first
        | exact xmC2
        | skip
    have hel : (R.getD (R.length - 1) default).at_ = (X.getD k default).e.la := by rw [show ((R.length : Int) - 1).toNat = R.length - 1 by omega] at hb; exact hb
    rename_i hfi
    have hE2 : chE b k = if tal R = (X.getD k default).e.T then 0 else 2 := by
      rw [hE1]
      by_cases hq : tal R = (X.getD k default).e.T
      · rw [if_pos ⟨by assumption, hfi, hel, hq⟩, if_pos hq]
      · rw [if_neg (fun q => hq q.2.2.2), if_neg hq]
    clear hE1
    refine LoopK.mk' {j : Nat // j ≤ (X.getD k default).e.T.length}
      (fun ⟨j, _⟩ => ⟨[(6, .c (.p 4 0 0)), (10, .c (.sl 5 0 3 0 R.length c3)), (12, .c (.mp 6 0)), (92, .c (.sl 2 k 1 0 (X.getD k default).e.T.length (X.getD k default).c1)), (93, .c (.i .i64 ((X.getD k default).e.T.length : Nat))), (94, .c (.i .i64 (j : Nat)))],
        [.one (bgC b 1 X.length c), .one (epR 2 3 X c), .many (tpG X), .many (cnG X), .one (.cells true (encEp 2 3 X k)), .one (rcR true R c3), .one (mpR j (mpU (X.getD k default).e.T j))]⟩) (fun j => (X.getD k default).e.T.length - j.1)
      ⟨⟨0, Nat.zero_le _⟩, [0, 1, 2, 3, 4, 5, 6], ?_⟩ ?_
    · (repeat' first | refine And.intro ?_ ?_ | exact xeC | fail)
      all_goals first
        | exact xmC2
        | (intro i hi; exact absurd hi (Nat.not_lt_zero i))
        | skip
    rintro ⟨j, hj⟩
    have hm1 : ((X.getD k default).e.T.map Prod.fst).length = (X.getD k default).e.T.length := List.length_map _
    have hm2 : ((X.getD k default).e.T.map Prod.snd).length = (X.getD k default).e.T.length := List.length_map _
    have e5 : 0 + ((j : Nat) : Int).toNat = j := by omega
    have hml := mpU_len (X.getD k default).e.T j
    have hmx : ∀ i, i < j → (mpU (X.getD k default).e.T j).getD i default = (i, ((X.getD k default).e.T.getD i default).1, ((X.getD k default).e.T.getD i default).2) := fun i hi => mpU_at hi
    rcases Nat.lt_or_ge j (X.getD k default).e.T.length with hjl | hjg
    · skip
      repeat' (first | (fail_if_success (with_reducible refine xstp ?_)); first | ((with_reducible refine And.intro (fun (hb : _ = true) => ?_) (fun (hb : _ = false) => ?_)) <;> replace hb := xnC hb <;> (try first | exact xfC | exact bff hb (by assumption) | exact bff (by assumption) hb)) | (with_reducible intro hc; (try simp only [capsP, and_true] at hc); (try exact xfC)) | ((fail_if_success (with_reducible first | refine xgon ?_ | intro _)); (conv => whnf); (fail_if_success (fail_if_success (with_reducible first | refine xstp ?_ | refine xgon ?_ | intro _)))))
      all_goals try (first | refine ManyK.mk ⟨_, g1, ?_⟩ | refine ManyK.mk ⟨_, g2, ?_⟩)
      all_goals (
        repeat' (first | (fail_if_success (with_reducible refine xstp ?_)); first | ((with_reducible refine And.intro ?_ ?_); focus exact xoC) | ((fail_if_success (with_reducible first | refine xgon ?_ | intro _)); (conv => whnf); (fail_if_success (fail_if_success (with_reducible first | refine xstp ?_ | refine xgon ?_ | intro _)))))
        )
      all_goals try (first | refine ManyK.mk ⟨_, g1, ?_⟩ | refine ManyK.mk ⟨_, g2, ?_⟩)
      all_goals (
        repeat' (first | (fail_if_success (with_reducible refine xstp ?_)); first | ((with_reducible refine And.intro ?_ ?_); focus exact xoC) | ((fail_if_success (with_reducible first | refine xgon ?_ | intro _)); (conv => whnf); (fail_if_success (fail_if_success (with_reducible first | refine xstp ?_ | refine xgon ?_ | intro _)))))
        )
      all_goals try (first | refine ManyK.mk ⟨_, g1, ?_⟩ | refine ManyK.mk ⟨_, g2, ?_⟩)
      all_goals (
        repeat' (first | (fail_if_success (with_reducible refine xstp ?_)); first | ((with_reducible refine And.intro ?_ ?_); focus exact xoC) | ((fail_if_success (with_reducible first | refine xgon ?_ | intro _)); (conv => whnf); (fail_if_success (fail_if_success (with_reducible first | refine xstp ?_ | refine xgon ?_ | intro _)))))
        )
      all_goals try (first | refine ManyK.mk ⟨_, g1, ?_⟩ | refine ManyK.mk ⟨_, g2, ?_⟩)
      all_goals (
        repeat' (first | (fail_if_success (with_reducible refine xstp ?_)); first | (with_reducible refine Both.mk ?_ ?_) | ((with_reducible refine And.intro ?_ ?_); focus exact xoC) | (with_reducible intro hc; (try simp only [capsP, and_true] at hc); (try exact xfC)) | ((fail_if_success (with_reducible first | refine xgon ?_ | intro _)); (conv => whnf); (fail_if_success (fail_if_success (with_reducible first | refine xstp ?_ | refine Both.mk ?_ ?_ | refine xgon ?_ | intro _)))))
        )
      all_goals rw [e5, getFst] at hc
      · rename_i a ha
        exfalso
        rw [hml] at ha
        rw [hmx a ha] at hc
        have h1 := mpU_ne hTs.1 (k := j + 1) hjl a j ha (by rw [mpU_len]; omega)
        rw [mpU_at (by omega), mpU_at (by omega)] at h1
        exact h1 (mkS_inj.1 (Key.s.inj hc))
      · rw [e5, getFst, getSnd]
        refine ⟨⟨j + 1, hjl⟩, [0, 1, 2, 3, 4, 5, 6], by simp only; omega, ?_⟩
        simp only [mpU_succ]
        (repeat' first | refine And.intro ?_ ?_ | exact xeC | fail)
        all_goals first
          | exact xmC2
          | exact mpR_new
          | (simp; done)
          | skip
    · obtain rfl : j = (X.getD k default).e.T.length := by omega
      repeat' (first | (fail_if_success (with_reducible refine xstp ?_)); first | ((with_reducible refine And.intro (fun (hb : _ = true) => ?_) (fun (hb : _ = false) => ?_)) <;> replace hb := xnC hb <;> (try first | exact xfC | exact bff hb (by assumption) | exact bff (by assumption) hb)) | (with_reducible intro hc; (try simp only [capsP, and_true] at hc); (try exact xfC)) | ((fail_if_success (with_reducible first | refine xgon ?_ | intro _)); (conv => whnf); (fail_if_success (fail_if_success (with_reducible first | refine xstp ?_ | refine xgon ?_ | intro _)))))
      have hD0 := DOk.init hTs.1 hTs.2
      refine LoopK.mk' {p : Nat × Nat × List Me // p.1 ≤ R.length ∧ DOk p.2.2 (X.getD k default).e.T (R.take p.1) ∧ ∀ a, a < p.2.2.length → (p.2.2.getD a default).2.2 ≤ 1099511627776}
        (fun ⟨(i, ck, M), _⟩ => ⟨[(10, .c (.sl 4 0 3 0 R.length c3)), (12, .c (.mp 5 0)), (107, .c (.sl 4 0 3 0 R.length c3)), (108, .c (.i .i64 (R.length : Nat))), (109, .c (.i .i64 (i : Nat)))],
          [.one (bgC b 1 X.length c), .one (epR 2 3 X c), .many (tpG X), .many (cnG X), .one (rcR true R c3), .one (mpR ck M)]⟩) (fun p => R.length - p.1.1)
        ⟨⟨(0, (X.getD k default).e.T.length, mpU (X.getD k default).e.T (X.getD k default).e.T.length), Nat.zero_le _, hD0, fun a ha => ?_⟩, [0, 1, 2, 3, 5, 6], ?_⟩ ?_
      · have ha : a < (X.getD k default).e.T.length := by rw [← hml]; exact ha
        show ((mpU _ _).getD a default).2.2 ≤ _
        rw [hmx a ha]
        exact (hTc _ (by rw [getD_at ha]; exact List.getElem_mem _)).2
      · (repeat' first | refine And.intro ?_ ?_ | exact xeC | fail)
        all_goals first
          | exact xmC2
          | skip
      rintro ⟨⟨i, ck, M⟩, hi, hD, hMb⟩
      simp only at hi hD hMb
      have e6 : 0 + ((i : Nat) : Int).toNat = i := by omega
      rcases Nat.lt_or_ge i R.length with hil | hig
      · have hts := take_snocG R hil
        repeat' (first | (fail_if_success (with_reducible refine xstp ?_)); first | ((with_reducible refine And.intro (fun (hb : _ = true) => ?_) (fun (hb : _ = false) => ?_)) <;> replace hb := xnC hb <;> (try first | exact xfC | exact bff hb (by assumption) | exact bff (by assumption) hb)) | (with_reducible refine Both.mk ?_ ?_) | ((with_reducible refine And.intro ?_ ?_); focus exact xoC) | (with_reducible intro hc; (try simp only [capsP, and_true] at hc); (try exact xfC)) | ((fail_if_success (with_reducible first | refine xgon ?_ | intro _)); (conv => whnf); (fail_if_success (fail_if_success (with_reducible first | refine xstp ?_ | refine Both.mk ?_ ?_ | refine xgon ?_ | intro _)))))
        · rename_i a ha
          rw [e6] at hc
          have hka := mkS_inj.1 (Key.s.inj hc)
          have hc0 := hc
          clear hc
          have hva := hD.va a ha
          have hvm := hMb a ha
          have same : ∀ d, d < M.length → Key.s (mkS (M.getD d default).2.1) = Key.s (mkS (R.getD i default).tp) → d = a := fun d hd hq => by
            have hkd := mkS_inj.1 (Key.s.inj hq)
            rcases (by omega : d < a ∨ a < d ∨ d = a) with h | h | h
            · exact absurd (hkd.trans hka.symm) (hD.ne d a h ha)
            · exact absurd (hka.trans hkd.symm) (hD.ne a d h hd)
            · exact h
          repeat' (first | (fail_if_success (with_reducible refine xstp ?_)); first | ((with_reducible refine And.intro (fun (hb : _ = true) => ?_) (fun (hb : _ = false) => ?_)) <;> replace hb := xnC hb <;> (try first | exact xfC | exact bff hb (by assumption) | exact bff (by assumption) hb)) | (with_reducible refine Both.mk ?_ ?_) | ((with_reducible refine And.intro ?_ ?_); focus exact xoC) | (with_reducible intro hc; (try simp only [capsP, and_true] at hc); (try exact xfC)) | ((fail_if_success (with_reducible first | refine xgon ?_ | intro _)); (conv => whnf); (fail_if_success (fail_if_success (with_reducible first | refine xstp ?_ | refine Both.mk ?_ ?_ | refine xgon ?_ | intro _)))))
          · rename_i a2 ha2
            rw [e6] at hc
            obtain rfl := same a2 ha2 hc
            clear hc
            have hv1 : (M.getD a2 default).2.2 = 1 := by omega
            rw [e6]
            refine And.intro (fun j hj => ?_) (Both.mk ?_ ?_)
            · show (if j = a2 then _ else _ : Nat × Key × E).2.1.sk _ = true
              split <;> exact sk_s _ _
            · intro d hd hq
              obtain rfl : d = a2 := by
                by_cases h : d = a2
                · exact h
                · refine same d hd ?_
                  have hq2 : (if d = a2 then _ else _ : Nat × Key × E).2.1 = _ := hq
                  rw [if_neg h] at hq2
                  exact hq2
              repeat' (first | (fail_if_success (with_reducible refine xstp ?_)); first | ((with_reducible refine And.intro ?_ ?_); focus exact xoC) | ((fail_if_success (with_reducible first | refine xgon ?_ | intro _)); (conv => whnf); (fail_if_success (fail_if_success (with_reducible first | refine xstp ?_ | refine xgon ?_ | intro _)))))
              have hD' := hD.del (r := R.getD i default) ha2 hka hv1
              rw [← hts] at hD'
              have hcl := cut_len M ha2
              refine ⟨⟨(i + 1, ck, M.take d ++ M.drop (d + 1)), hil, hD', fun x hx => ?_⟩, [0, 1, 2, 3, 4, 5], by simp only; omega, ?_⟩
              · have hx : x < (M.take d ++ M.drop (d + 1)).length := hx
                show ((M.take d ++ M.drop (d + 1)).getD x default).2.2 ≤ _
                rw [hcl] at hx
                rw [getD_cut M ha2]
                split
                · exact hMb x (by omega)
                · exact hMb (x + 1) (by omega)
              · (repeat' first | refine And.intro ?_ ?_ | exact xeC | fail)
                all_goals first
                  | exact xmC2
                  | omega
                  | exact fun j _ => mpR_cut ha2 j
                  | skip
            · intro hno
              exfalso
              refine hno a2 ha2 ?_
              show (if a2 = a2 then _ else _ : Nat × Key × E).2.1 = _
              rw [if_pos rfl]
          · rename_i a2 ha2
            rw [e6] at hc
            obtain rfl := same a2 ha2 hc
            clear hc
            have hv2 : 2 ≤ (M.getD a2 default).2.2 := by omega
            have hD' := hD.dec (r := R.getD i default) ha2 hka hv2
            rw [← hts] at hD'
            rw [e6]
            refine ⟨⟨(i + 1, ck, M.set a2 ((M.getD a2 default).1, (R.getD i default).tp, (M.getD a2 default).2.2 - 1)), hil, hD', fun x hx => ?_⟩, [0, 1, 2, 3, 4, 5], by simp only; omega, ?_⟩
            · have hx : x < (M.set a2 ((M.getD a2 default).1, (R.getD i default).tp, (M.getD a2 default).2.2 - 1)).length := hx
              show ((M.set a2 _).getD x default).2.2 ≤ _
              rw [List.length_set] at hx
              rw [getD_set _ _ _ _ ha2]
              split
              · simp only; omega
              · exact hMb x hx
            · (repeat' first | refine And.intro ?_ ?_ | exact xeC | fail)
              all_goals first
                | exact xmC2
                | exact List.length_set.symm
                | exact mpR_set ha2 (by omega)
                | skip
          · exact absurd (by rw [e6]; exact hc0) (hc a ha)
          · exact absurd (by rw [e6]; exact hc0) (hc a ha)
        · rw [e6] at hc
          have hne := hD.no hil (fun a ha q => hc a ha (by rw [q]))
          have hE : chE b k = 2 := by rw [hE2, if_neg hne]
          have hL : chL b k = [] := by rw [hL1, if_neg (by rw [hE]; decide)]
          rw [hE, hL]
          refine FinK.mk ⟨[0, 1, 2, 3, 99], _, _, ⟨0, rfl, rfl⟩, ?_⟩
          (repeat' first | refine And.intro ?_ ?_ | exact xeC | fail)
          all_goals first
            | exact xmC2
            | skip
      · obtain rfl : i = R.length := by omega
        rw [List.take_length] at hD
        have hf := hD.fin hTs.1 hTs.2
        repeat' (first | (fail_if_success (with_reducible refine xstp ?_)); first | ((with_reducible refine And.intro (fun (hb : _ = true) => ?_) (fun (hb : _ = false) => ?_)) <;> replace hb := xnC hb <;> (try first | exact xfC | exact bff hb (by assumption) | exact bff (by assumption) hb)) | (with_reducible intro hc; (try simp only [capsP, and_true] at hc); (try exact xfC)) | ((fail_if_success (with_reducible first | refine xgon ?_ | intro _)); (conv => whnf); (fail_if_success (fail_if_success (with_reducible first | refine xstp ?_ | refine xgon ?_ | intro _)))))
        · have hE : chE b k = 2 := by rw [hE2, if_neg (fun q => by have := hf.1 q; omega)]
          have hL : chL b k = [] := by rw [hL1, if_neg (by rw [hE]; decide)]
          rw [hE, hL]
          refine FinK.mk ⟨[0, 1, 2, 3, 99], _, _, ⟨0, rfl, rfl⟩, ?_⟩
          (repeat' first | refine And.intro ?_ ?_ | exact xeC | fail)
          all_goals first
            | exact xmC2
            | skip
        · have hE : chE b k = 0 := by rw [hE2, if_pos (hf.2 (by omega))]
          have hL : chL b k = R := by rw [hL1, if_pos hE]
          rw [hE, hL]
          refine FinK.mk ⟨[0, 1, 2, 3, 4], _, _, ⟨c3, rfl, rfl⟩, ?_⟩
          (repeat' first | refine And.intro ?_ ?_ | exact xeC | fail)
          all_goals first
            | exact xmC2
            | skip)
end Go.Proofs.YtkjkbpnhocjenaaGreat


namespace Go.Proofs.YtkjkbpnhocjenaaGreat
open Go.X
set_option linter.unusedSimpArgs false
set_option linter.unusedVariables false
open P4
open P5
theorem tlN_adv {s : ByteArray} : ∀ (k a e : Nat), a ≤ s.size → (tlN s k a e).1.length + a ≤ (tlN s k a e).2.1 + (if (tlN s k a e).2.2 = 0 then 0 else 1) ∧ ∀ t ∈ (tlN s k a e).1, t.1.length ≤ 40 ∧ t.2 ≤ 1099511627776
  | 0, a, e, h => by simp [tlN]
  | k + 1, a, e, h => by
    unfold tlN
    split
    · rename_i he
      subst he
      have h1 := rdT_mono (e := 0) (m := 40) h
      have h2 := rdAt_mono (e := (rdT s a 0 40).2.2) h1.2
      have h3 := tlN_adv k _ (rdAt s (rdT s a 0 40).2.1 (rdT s a 0 40).2.2).2.2 h2.2
      refine ⟨?_, ?_⟩
      · simp only [List.length_cons]
        by_cases hp : (rdAt s (rdT s a 0 40).2.1 (rdT s a 0 40).2.2).2.2 = 0
        · have := rdS_pos (m := 1099511627776) hp
          have e1 : (rdS s (rdT s a 0 40).2.1 (rdT s a 0 40).2.2 1099511627776).2.1 = (rdAt s (rdT s a 0 40).2.1 (rdT s a 0 40).2.2).2.1 := rfl
          have := h3.1
          omega
        · rw [tlN_stop (.inr hp)]
          simp only [List.length_nil]
          rw [if_neg hp]
          omega
      · intro t ht
        rcases List.mem_cons.1 ht with rfl | ht
        · exact ⟨rdT_len s a 0 40, by have := rdAt_le s (rdT s a 0 40).2.1 (rdT s a 0 40).2.2; simp only; omega⟩
        · exact h3.2 t ht
    · simp
theorem enN_flat {s : ByteArray} : ∀ (k a e : Nat), a ≤ s.size → ((enN s k a e).1.flatMap En.T).length ≤ 2 * (s.size - a) + 2 ∧ ∀ y ∈ (enN s k a e).1, ∀ t ∈ y.T, t.1.length ≤ 40 ∧ t.2 ≤ 1099511627776
  | 0, a, e, h => by simp [enN]
  | k + 1, a, e, h => by
    unfold enN
    split
    · rename_i he
      subst he
      have hm := sm_mono (e := 0) h
      have ht := tlN_mono (s := s) (sm4 s a 0).1 (sm4 s a 0).2.1 (sm4 s a 0).2.2 hm.2.2.2.1
      have hl := tlN_adv (s := s) (sm4 s a 0).1 (sm4 s a 0).2.1 (sm4 s a 0).2.2 hm.2.2.2.1
      have e1 : enT s a 0 = tlN s (sm4 s a 0).1 (sm4 s a 0).2.1 (sm4 s a 0).2.2 := rfl
      have e2 : (rdEn s a 0).T = (tlN s (sm4 s a 0).1 (sm4 s a 0).2.1 (sm4 s a 0).2.2).1 := rfl
      have h3 := enN_flat k (enT s a 0).2.1 (enT s a 0).2.2 (by rw [e1]; exact ht.2.1)
      refine ⟨?_, ?_⟩
      · simp only [List.flatMap_cons, List.length_append]
        rw [e2]
        by_cases hp : (enT s a 0).2.2 = 0
        · have := sm_pos (ht.2.2 (by rw [← e1]; exact hp))
          rw [e1] at h3 hp ⊢
          have h4 := hl.1
          rw [if_pos hp] at h4
          have := h3.1
          omega
        · rw [enN_stop (.inr hp)]
          rw [e1] at hp
          have h4 := hl.1
          rw [if_neg hp] at h4
          simp only [List.flatMap_nil, List.length_nil]
          omega
      · intro y hy
        rcases List.mem_cons.1 hy with rfl | hy
        · rw [e2]; exact hl.2
        · exact h3.2 y hy
    · simp
theorem ixL_flat (s : ByteArray) : ((ixL s).1.flatMap En.T).length ≤ 2 * s.size + 2 ∧ ∀ y ∈ (ixL s).1, ∀ t ∈ y.T, t.1.length ≤ 40 ∧ t.2 ≤ 1099511627776 := by
  unfold ixL
  split
  · have h1 := rdU_le (s := s) (a := 0) (e := 0) (Nat.zero_le _)
    have h2 := rdAt_mono (e := (rdU s 0 0).2.2) h1.1
    have := enN_flat (s := s) (rdAt s (rdU s 0 0).2.1 (rdU s 0 0).2.2).1 _ (rdAt s (rdU s 0 0).2.1 (rdU s 0 0).2.2).2.2 h2.2
    exact ⟨by simp only; omega, this.2⟩
  · simp
theorem bgE_ok {l : List UInt8} (h : bgE l = 0) : 18 ≤ l.length ∧ l.take 5 = magic ∧ l.drop (l.length - 5) = magic ∧ 5 ≤ bgA l ∧ bgA l ≤ l.length - 13 ∧ (bgX l).2 = 0 ∧ (ixL (mkS (bgX l).1)).2 = true ∧ ordE (ixL (mkS (bgX l).1)).1 (bgA l) := by
  unfold bgE at h
  split at h
  · cases h
  · split at h
    · cases h
    · rename_i h1 h2
      have h2 := Decidable.of_not_not h2
      split at h
      · rename_i h3
        exact absurd h h3
      · rename_i h3
        split at h
        · rename_i h4
          exact ⟨by omega, h2.1, h2.2.1, h2.2.2.1, h2.2.2.2, Decidable.of_not_not h3, h4⟩
        · cases h
theorem BOk.of {l : List UInt8} (h : bgE l = 0) (hl : l.length ≤ 400000) : BOk (bgO l) := by
  obtain ⟨h1, h2, h3, h4, h5, h6, h7, h8⟩ := bgE_ok h
  have hO := bgO_L l
  have hs : (bgO l).s = l := by simp only [bgO]
  have hi : (bgO l).ix = bgA l := by simp only [bgO]
  have hx := ixL_len (mkS (bgX l).1)
  have hf := ixL_flat (mkS (bgX l).1)
  have hbl := exaL_len ((l.take (l.length - 13)).drop (bgA l))
  rw [List.length_drop, List.length_take] at hbl
  have hbx : (bgX l).1.length ≤ 400000 := by unfold bgX; omega
  have hz : (mkS (bgX l).1).size = (bgX l).1.length := mkS_size _
  rw [hz] at hx hf
  refine ⟨by rw [hs]; omega, by rw [hs, hi]; omega, by rw [hO, hi]; exact h8, by rw [hO]; omega, ?_, fun y hy => ?_⟩
  · unfold flatT
    rw [hO]
    omega
  · rw [hO] at hy
    exact ⟨by have := (hx.2 y hy).1; omega, hf.2 y hy⟩
theorem flatT_take (L : List En) {i : Nat} (h : i < L.length) : (L.take (i + 1)).flatMap En.T = (L.take i).flatMap En.T ++ (L.getD i default).T := by
  rw [take_snocG L h, List.flatMap_append]; simp
theorem flat_le (L : List En) (i : Nat) : ((L.take i).flatMap En.T).length ≤ (L.flatMap En.T).length := by
  conv => rhs; rw [← List.take_append_drop i L]
  rw [List.flatMap_append, List.length_append]
  omega
theorem rH41zbO0 {σ : List Sg} {H h' : List Fam} {v : T} {K : T → List Fam → Prop} {H' : List Fam} {v' : T} {N : Nat} (hk : K v' H') (hN : H.length = N := by (try simp only [↓List.length_cons, ↓List.length_nil, Nat.reduceAdd]) <;> rfl) (h : givesF σ N H σ h' = some H' := by (try simp (maxSteps := 1000000) only [givesF, setF, updF, Fam.zeroth, Fam.rk, Ck.rk, C.rk, E.rk, T.rk, key, List.map_cons, List.map_nil, List.cons_append, List.nil_append, List.length_cons, List.length_nil, Option.map_some, Option.bind_some, Nat.reduceAdd, Nat.zero_add, Nat.add_zero, Nat.add_sub_cancel_left, Int.toNat_natCast, reps, List.all_cons, List.all_nil, C.flat, List.append_eq, Bool.not_true, Bool.and_true, Bool.or_false, Bool.or_self, Bool.not_false, List.append_nil, Bool.and_self, ↓tpG_rk, ↓cnG_rk, encEp_rk2]) <;> rfl) (hv : v.rk σ N = v' := by (try simp only [givesF, setF, updF, Fam.zeroth, Fam.rk, Ck.rk, C.rk, E.rk, T.rk, key, List.map_cons, List.map_nil, List.cons_append, List.nil_append, List.length_cons, List.length_nil, Option.map_some, Option.bind_some, Nat.reduceAdd, Nat.zero_add, Nat.add_zero, Nat.add_sub_cancel_left, Int.toNat_natCast, reps, List.all_cons, List.all_nil, C.flat, List.append_eq, Bool.not_true, Bool.and_true, Bool.or_false, Bool.or_self, Bool.not_false, List.append_nil, Bool.and_self, ↓tpG_rk, ↓cnG_rk, encEp_rk2]) <;> rfl) : RetG σ H h' v K := ret_mk3 hN h hv hk
theorem cH41zbO1 {P : Program} {F : Nat} {args : List T} {H : List Fam} {K : T → List Fam → Prop} {σ : List Sg} {nl : List Fam} {args0 : List T} {h0 : List Fam} {Q : T → List Fam → Prop} {H2 H1 : List Fam} {N n : Nat} (hc : Ctr P F args0 h0 Q) (hk : ∀ v h', Q v h' → capsP h' → RetG σ H2 h' v K) (hap : apart σ = true := by rfl) (hnl : nl.all nilB = true := by rfl) (h1 : H ++ nl = H1 := by first | exact List.append_nil _ | ((try simp only [List.cons_append, List.nil_append]) <;> rfl)) (hN : H1.length = N := by (try simp only [↓List.length_cons, ↓List.length_nil, Nat.reduceAdd]) <;> rfl) (hn : H.length = n := by (try simp only [↓List.length_cons, ↓List.length_nil, Nat.reduceAdd]) <;> rfl) (hH : givesF σ N H1 σ h0 = some H2 := by (try simp (maxSteps := 1000000) only [givesF, setF, updF, Fam.zeroth, Fam.rk, Ck.rk, C.rk, E.rk, T.rk, key, List.map_cons, List.map_nil, List.cons_append, List.nil_append, List.length_cons, List.length_nil, Option.map_some, Option.bind_some, Nat.reduceAdd, Nat.zero_add, Nat.add_zero, Nat.add_sub_cancel_left, Int.toNat_natCast, reps, List.all_cons, List.all_nil, C.flat, List.append_eq, Bool.not_true, Bool.and_true, Bool.or_false, Bool.or_self, Bool.not_false, List.append_nil, Bool.and_self, ↓tpG_rk, ↓cnG_rk]) <;> rfl) (hle : leS n H1 σ N σ h0 (belsK N (h0.map (Fam.rk σ N)) (argsK n args (args0.map (T.rk σ N)) True)) := by repeat' first | refine And.intro ?_ ?_ | exact xeC | fail) : CallK P F args H K := CallK.mk3 hc hap hnl h1 hN hn hH hle hk
set_option maxRecDepth 10000 in
set_option maxHeartbeats 8000000 in
theorem cTopics (b : Bg) (X : List Ep) (c : Nat) (hb : BOk b) (hX : es X = b.L) :
    Ctr Tryz.prog 20 [.c (.p 0 0 0)] (bagH b X c)
      fun v h => ∃ c', v = .c (.sl 4 0 1 0 (topB b).length c') ∧ h = bagH b X c ++ [.one (stR true (topB b) c')] := by
  have hLl : b.L.length = X.length := by rw [← hX]; exact List.length_map _
  have hgk : ∀ i, b.L.getD i default = (X.getD i default).e := fun i => by rw [← hX, getEs]
  have hn := hb.n
  have hfl := hb.flat
  unfold flatT at hfl
  refine Ctr.mk' tbv mixed Tryz.func20 rfl rfl rfl (fun _ _ => by kernel_rfl) (by kernel_rfl) (by rfl) (by rfl) (by (repeat' first | refine And.intro ?_ ?_ | exact xeC | fail) <;> exact xmC2) ?_
  repeat' (first | (fail_if_success (with_reducible refine xstp ?_)); first | (with_reducible intro hc; (try simp only [capsP, and_true] at hc); (try exact xfC)) | ((fail_if_success (with_reducible first | refine xgon ?_ | intro _)); (conv => whnf); (fail_if_success (fail_if_success (with_reducible first | refine xstp ?_ | refine xgon ?_ | intro _)))))
  refine LoopK.mk' {p : Nat × Nat // p.1 ≤ X.length}
    (fun ⟨(i, c1), _⟩ => ⟨[(3, .c (.sl 4 0 1 0 (((b.L.take i).flatMap En.T).map Prod.fst).length c1)), (11, .c (.sl 1 0 5 0 X.length c)), (12, .c (.i .i64 (X.length : Nat))), (13, .c (.i .i64 (i : Nat)))],
      [.one (bgC b 1 X.length c), .one (epR 2 3 X c), .many (tpG X), .many (cnG X), .one (stR true (((b.L.take i).flatMap En.T).map Prod.fst) c1)]⟩) (fun p => X.length - p.1.1)
    ⟨⟨(0, 0), Nat.zero_le _⟩, [0, 1, 2, 3, 99], ?_⟩ ?_
  · (repeat' first | refine And.intro ?_ ?_ | exact xeC | fail)
    all_goals first
      | exact xmC2
      | (intro i hi; exact absurd hi (Nat.not_lt_zero i))
      | skip
  rintro ⟨⟨i, c1⟩, hi⟩
  simp only at hi
  have e2 : 0 + ((i : Nat) : Int).toNat = i := by omega
  have hfi := flat_le b.L i
  have hfl1 : (((b.L.take i).flatMap En.T).map Prod.fst).length = ((b.L.take i).flatMap En.T).length := List.length_map _
  rcases Nat.lt_or_ge i X.length with hlt | hge
  · have hts := flatT_take b.L (i := i) (by omega)
    rw [hgk] at hts
    have hfi2 := flat_le b.L (i + 1)
    rw [hts, List.length_append] at hfi2
    have g1 : ixG tpC X i = stR true ((X.getD i default).e.T.map Prod.fst) (X.getD i default).c1 := ixG_at hlt
    have hm1 : ((X.getD i default).e.T.map Prod.fst).length = (X.getD i default).e.T.length := List.length_map _
    rw [← e2] at g1
    have hfi3 : (X.getD (0 + ((i : Nat) : Int).toNat) default).e.T.length = (X.getD i default).e.T.length := by rw [e2]
    repeat' (first | (fail_if_success (with_reducible refine xstp ?_)); first | ((with_reducible refine And.intro (fun (hb : _ = true) => ?_) (fun (hb : _ = false) => ?_)) <;> replace hb := xnC hb <;> (try first | exact xfC | exact bff hb (by assumption) | exact bff (by assumption) hb)) | ((with_reducible refine And.intro ?_ ?_); focus exact xoC) | (with_reducible intro hc; (try simp only [capsP, and_true] at hc); (try exact xfC)) | ((fail_if_success (with_reducible first | refine xgon ?_ | intro _)); (conv => whnf); (fail_if_success (fail_if_success (with_reducible first | refine xstp ?_ | refine xgon ?_ | intro _)))))
    repeat (
      refine ManyK.mk ⟨_, g1, ?_⟩
      repeat' (first | (fail_if_success (with_reducible refine xstp ?_)); first | ((with_reducible refine And.intro ?_ ?_); focus exact xoC) | ((with_reducible refine Or.inl ⟨?_, ?_, ?_⟩); (focus rfl); focus exact xaC) | (with_reducible intro hc; (try simp only [capsP, and_true] at hc); (try exact xfC)) | ((fail_if_success (with_reducible first | refine xgon ?_ | intro _)); (conv => whnf); (fail_if_success (fail_if_success (with_reducible first | refine xstp ?_ | refine xgon ?_ | intro _)))))
      )
    rename_i c2
    refine ⟨⟨(i + 1, c2), hlt⟩, [0, 1, 2, 3, 6], by simp only; omega, ?_⟩
    simp only [hts, List.map_append]
    rw [e2]
    (repeat' first | refine And.intro ?_ ?_ | exact xeC | fail)
    all_goals first
      | exact xmC2
      | (rw [List.length_append, hm1]; done)
      | (rw [List.length_append, hm1]; omega)
      | exact ixG_leB tpF hlt
      | exact ixG_leB1 tpF hlt
      | exact app_rowL encSt _ _ _ _ (fun j _ => by simp only [Nat.zero_add]; rfl)
      | skip
  · obtain rfl : i = X.length := by omega
    have hta : b.L.take X.length = b.L := by rw [← hLl]; exact List.take_length
    rw [hta] at hfi hfl1
    have htp := topB_of b
    have hsl := srtS_len ((b.L.flatMap En.T).map Prod.fst)
    repeat' (first | (fail_if_success (with_reducible refine xstp ?_)); first | ((with_reducible refine And.intro (fun (hb : _ = true) => ?_) (fun (hb : _ = false) => ?_)) <;> replace hb := xnC hb <;> (try first | exact xfC | exact bff hb (by assumption) | exact bff (by assumption) hb)) | (with_reducible intro hc; (try simp only [capsP, and_true] at hc); (try exact xfC)) | ((fail_if_success (with_reducible first | refine xgon ?_ | intro _)); (conv => whnf); (fail_if_success (fail_if_success (with_reducible first | refine xstp ?_ | refine xgon ?_ | intro _)))))
    rw [hta]
    refine cH41zbO1 (σ := [.whole 4]) (nl := []) (cSortS ((b.L.flatMap En.T).map Prod.fst) c1 (by omega)) ?_ (hle := by (repeat' first | refine And.intro ?_ ?_ | exact xeC | fail) <;> exact xmC2)
    rintro v h' ⟨rfl, rfl⟩ hcaps
    rw [← hsl]
    refine rH41zbO0 ?_
    repeat' (first | (fail_if_success (with_reducible refine xstp ?_)); first | ((fail_if_success (with_reducible first | refine xgon ?_ | intro _)); (conv => whnf); (fail_if_success (fail_if_success (with_reducible first | refine xstp ?_ | refine xgon ?_ | intro _)))))
    refine cH41zbO1 (σ := [.whole 4]) (nl := []) (cCompact (srtS ((b.L.flatMap En.T).map Prod.fst)) c1 (by omega)) ?_ (hle := by (repeat' first | refine And.intro ?_ ?_ | exact xeC | fail) <;> exact xmC2)
    rintro v h' ⟨rfl, rfl⟩ hcaps
    have htp2 : Lib.compact (srtS ((b.L.flatMap En.T).map Prod.fst)) = topB b := htp
    rw [htp2]
    refine rH41zbO0 ?_
    repeat' (first | (fail_if_success (with_reducible refine xstp ?_)); first | ((fail_if_success (with_reducible first | refine xgon ?_ | intro _)); (conv => whnf); (fail_if_success (fail_if_success (with_reducible first | refine xstp ?_ | refine xgon ?_ | intro _)))))
    have hcl := Lib.compact_length_le (srtS ((b.L.flatMap En.T).map Prod.fst))
    rw [htp2] at hcl
    refine FinK.mk ⟨[0, 1, 2, 3, 4], _, _, ⟨c1, rfl, rfl⟩, ?_⟩
    (repeat' first | refine And.intro ?_ ?_ | exact xeC | fail)
    all_goals first
      | exact xmC2
      | exact hcl
      | (intro i hi
         have hcm : cmpS (srtS ((b.L.flatMap En.T).map Prod.fst)) = topB b ++ List.replicate ((srtS ((b.L.flatMap En.T).map Prod.fst)).length - (topB b).length) [] := by unfold cmpS; rw [htp2]
         rw [hcm]
         simp only [rowOf, List.getD, List.getElem?_append_left hi])
      | skip
def spnB (b : Bg) : T := if b.L.length = 0 then .t [.c (.i .i64 0), .c (.i .i64 0), .c .ff] else .t [.c (.i .i64 ((b.L.getD 0 default).fi : Nat)), .c (.i .i64 ((b.L.getD (b.L.length - 1) default).la : Nat)), .c .tt]
set_option maxRecDepth 10000 in
theorem cSpan (b : Bg) (X : List Ep) (c : Nat) (hb : BOk b) (hX : es X = b.L) :
    Ctr Tryz.prog 18 [.c (.p 0 0 0)] (bagH b X c) fun v h => v = spnB b ∧ h = bagH b X c := by
  have hLl : b.L.length = X.length := by rw [← hX]; exact List.length_map _
  have hgk : ∀ i, b.L.getD i default = (X.getD i default).e := fun i => by rw [← hX, getEs]
  have hn := hb.n
  unfold spnB
  rw [hLl, hgk, hgk]
  have e1 : 0 < X.length → 0 + ((X.length : Int) - 1).toNat = X.length - 1 := fun h => by omega
  have e0 : 0 + Int.toNat 0 = 0 := rfl
  refine Ctr.mk' tbv mixed Tryz.func18 rfl rfl rfl (fun _ _ => by kernel_rfl) (by kernel_rfl) (by rfl) (by rfl) (by (repeat' first | refine And.intro ?_ ?_ | exact xeC | fail) <;> exact xmC2) ?_
  repeat' (first | (fail_if_success (with_reducible refine xstp ?_)); first | ((with_reducible refine And.intro (fun (hb : _ = true) => ?_) (fun (hb : _ = false) => ?_)) <;> replace hb := xnC hb <;> (try first | exact xfC | exact bff hb (by assumption) | exact bff (by assumption) hb)) | ((with_reducible refine And.intro ?_ ?_); focus exact xoC) | (with_reducible intro hc; (try simp only [capsP, and_true] at hc); (try exact xfC)) | ((fail_if_success (with_reducible first | refine xgon ?_ | intro _)); (conv => whnf); (fail_if_success (fail_if_success (with_reducible first | refine xstp ?_ | refine xgon ?_ | intro _)))))
  · rw [if_pos (by omega)]
    refine FinK.mk ⟨[0, 1, 2, 3], _, _, ⟨rfl, rfl⟩, ?_⟩
    (repeat' first | refine And.intro ?_ ?_ | exact xeC | fail)
    all_goals exact xmC2
  all_goals (
    rw [if_neg (by omega), e0, e1 (by omega)]
    refine FinK.mk ⟨[0, 1, 2, 3], _, _, ⟨rfl, rfl⟩, ?_⟩
    (repeat' first | refine And.intro ?_ ?_ | exact xeC | fail)
    all_goals exact xmC2)
end Go.Proofs.YtkjkbpnhocjenaaGreat


namespace Go.Proofs.YtkjkbpnhocjenaaGreat
open Go.X
set_option linter.unusedSimpArgs false
set_option linter.unusedVariables false
open P4
open P5
theorem cntF_le (F : List Tl) (t : List UInt8) (h : ∀ p ∈ F, p.2 ≤ 1099511627776) : cntF F t ≤ 1099511627776 * F.length := by
  induction F with
  | nil => simp [cntF]
  | cons a F ih =>
    have h1 := ih fun p hp => h p (List.mem_cons_of_mem _ hp)
    have h2 := h a (List.mem_cons_self ..)
    simp only [cntF, List.map_cons, List.sum_cons, List.length_cons] at h1 ⊢
    split <;> omega
set_option maxRecDepth 10000 in
set_option maxHeartbeats 8000000 in
theorem cCount (b : Bg) (X : List Ep) (c : Nat) (t : List UInt8) (hb : BOk b) (hX : es X = b.L) :
    Ctr Tryz.prog 21 [.c (.p 0 0 0), .c (.s (mkS t))] (bagH b X c)
      fun v h => v = .c (.i .i64 (cntF (flatT b) t : Nat)) ∧ h = bagH b X c := by
  have hLl : b.L.length = X.length := by rw [← hX]; exact List.length_map _
  have hgk : ∀ i, b.L.getD i default = (X.getD i default).e := fun i => by rw [← hX, getEs]
  have hn := hb.n
  have hfl := hb.flat
  have hcb : ∀ p ∈ flatT b, p.2 ≤ 1099511627776 := fun p hp => by
    obtain ⟨y, hy, hq⟩ := List.mem_flatMap.1 hp
    exact ((hb.sz y hy).2 p hq).2
  have htot : cntF (flatT b) t ≤ 1099511627776 * 1000000 := by have := cntF_le (flatT b) t hcb; omega
  have hsub : ∀ (A B : List Tl), A ++ B = flatT b → cntF A t ≤ 1099511627776 * 1000000 := fun A B h => by
    have := cntF_app A B t
    rw [h] at this
    have := htot
    omega
  unfold flatT at *
  refine Ctr.mk' tbv mixed Tryz.func21 rfl rfl rfl (fun _ _ => by kernel_rfl) (by kernel_rfl) (by rfl) (by rfl) (by (repeat' first | refine And.intro ?_ ?_ | exact xeC | fail) <;> exact xmC2) ?_
  repeat' (first | (fail_if_success (with_reducible refine xstp ?_)); first | (with_reducible intro hc; (try simp only [capsP, and_true] at hc); (try exact xfC)) | ((fail_if_success (with_reducible first | refine xgon ?_ | intro _)); (conv => whnf); (fail_if_success (fail_if_success (with_reducible first | refine xstp ?_ | refine xgon ?_ | intro _)))))
  refine LoopK.mk' {i : Nat // i ≤ X.length}
    (fun ⟨i, _⟩ => ⟨[(1, .c (.s (mkS t))), (5, .c (.i .i64 (cntF ((b.L.take i).flatMap En.T) t : Nat))), (15, .c (.sl 1 0 5 0 X.length c)), (16, .c (.i .i64 (X.length : Nat))), (17, .c (.i .i64 (i : Nat)))],
      [.one (bgC b 1 X.length c), .one (epR 2 3 X c), .many (tpG X), .many (cnG X)]⟩) (fun p => X.length - p.1)
    ⟨⟨0, Nat.zero_le _⟩, [0, 1, 2, 3], ?_⟩ ?_
  · (repeat' first | refine And.intro ?_ ?_ | exact xeC | fail)
    all_goals first
      | exact xmC2
      | skip
  rintro ⟨i, hi⟩
  have e2 : 0 + ((i : Nat) : Int).toNat = i := by omega
  rcases Nat.lt_or_ge i X.length with hlt | hge
  · have hts := flatT_take b.L (i := i) (by omega)
    rw [hgk] at hts
    have g1 : ixG tpC X i = stR true ((X.getD i default).e.T.map Prod.fst) (X.getD i default).c1 := ixG_at hlt
    have g2 : ixG cnC X i = ntR true ((X.getD i default).e.T.map Prod.snd) (X.getD i default).c2 := ixG_at hlt
    have hm1 : ((X.getD i default).e.T.map Prod.fst).length = (X.getD i default).e.T.length := List.length_map _
    have hm2 : ((X.getD i default).e.T.map Prod.snd).length = (X.getD i default).e.T.length := List.length_map _
    have hTl := (hb.sz (b.L.getD i default) (by rw [getD_at (by omega)]; exact List.getElem_mem _)).1
    rw [hgk] at hTl
    repeat' (first | (fail_if_success (with_reducible refine xstp ?_)); first | ((with_reducible refine And.intro (fun (hb : _ = true) => ?_) (fun (hb : _ = false) => ?_)) <;> replace hb := xnC hb <;> (try first | exact xfC | exact bff hb (by assumption) | exact bff (by assumption) hb)) | ((with_reducible refine And.intro ?_ ?_); focus exact xoC) | (with_reducible intro hc; (try simp only [capsP, and_true] at hc); (try exact xfC)) | ((fail_if_success (with_reducible first | refine xgon ?_ | intro _)); (conv => whnf); (fail_if_success (fail_if_success (with_reducible first | refine xstp ?_ | refine xgon ?_ | intro _)))))
    rw [e2]
    refine LoopK.mk' {k : Nat // k ≤ (X.getD i default).e.T.length}
      (fun ⟨k, _⟩ => ⟨[(1, .c (.s (mkS t))), (5, .c (.i .i64 (cntF ((b.L.take i).flatMap En.T ++ (X.getD i default).e.T.take k) t : Nat))), (7, .c (.p 4 0 0)), (15, .c (.sl 1 0 5 0 X.length c)), (16, .c (.i .i64 (X.length : Nat))), (17, .c (.i .i64 (i : Nat))), (22, .c (.sl 2 i 1 0 (X.getD i default).e.T.length (X.getD i default).c1)), (23, .c (.i .i64 ((X.getD i default).e.T.length : Nat))), (24, .c (.i .i64 (k : Nat)))],
        [.one (bgC b 1 X.length c), .one (epR 2 3 X c), .many (tpG X), .many (cnG X), .one (.cells true (encEp 2 3 X i))]⟩) (fun p => (X.getD i default).e.T.length - p.1)
      ⟨⟨0, Nat.zero_le _⟩, [0, 1, 2, 3, 4], ?_⟩ ?_
    · (repeat' first | refine And.intro ?_ ?_ | exact xeC | fail)
      all_goals first
        | exact xmC2
        | simp
    rintro ⟨k, hk⟩
    have e5 : 0 + ((k : Nat) : Int).toNat = k := by omega
    have hsp : ((b.L.take i).flatMap En.T ++ (X.getD i default).e.T.take k) ++ ((X.getD i default).e.T.drop k ++ (b.L.drop (i + 1)).flatMap En.T) = b.L.flatMap En.T := by
      rw [List.append_assoc, ← List.append_assoc ((X.getD i default).e.T.take k), List.take_append_drop, ← List.append_assoc, ← hts, ← List.flatMap_append, List.take_append_drop]
    have hcv := hsub _ _ hsp
    rcases Nat.lt_or_ge k (X.getD i default).e.T.length with hkl | hkg
    · have hts2 := take_snocG (X.getD i default).e.T hkl
      have hsn := cntF_snoc ((b.L.take i).flatMap En.T ++ (X.getD i default).e.T.take k) ((X.getD i default).e.T.getD k default) t
      have hcv2 := hcb ((X.getD i default).e.T.getD k default) (by rw [← hsp]; exact List.mem_append.2 (.inr (List.mem_append.2 (.inl (by rw [drop_consG _ hkl]; exact List.mem_cons_self ..)))))
      have hcs : ((X.getD i default).e.T.map Prod.snd).getD (0 + ((k : Nat) : Int).toNat) default = ((X.getD i default).e.T.getD k default).2 := by rw [e5, getSnd]
      repeat' (first | (fail_if_success (with_reducible refine xstp ?_)); first | ((with_reducible refine And.intro (fun (hb : _ = true) => ?_) (fun (hb : _ = false) => ?_)) <;> replace hb := xnC hb <;> (try first | exact xfC | exact bff hb (by assumption) | exact bff (by assumption) hb)) | (with_reducible intro hc; (try simp only [capsP, and_true] at hc); (try exact xfC)) | ((fail_if_success (with_reducible first | refine xgon ?_ | intro _)); (conv => whnf); (fail_if_success (fail_if_success (with_reducible first | refine xstp ?_ | refine xgon ?_ | intro _)))))
      all_goals try (first | refine ManyK.mk ⟨_, g1, ?_⟩ | refine ManyK.mk ⟨_, g2, ?_⟩)
      all_goals (
        repeat' (first | (fail_if_success (with_reducible refine xstp ?_)); first | ((with_reducible refine And.intro ?_ ?_); focus exact xoC) | ((fail_if_success (with_reducible first | refine xgon ?_ | intro _)); (conv => whnf); (fail_if_success (fail_if_success (with_reducible first | refine xstp ?_ | refine xgon ?_ | intro _)))))
        )
      all_goals try (first | refine ManyK.mk ⟨_, g1, ?_⟩ | refine ManyK.mk ⟨_, g2, ?_⟩)
      all_goals (
        repeat' (first | (fail_if_success (with_reducible refine xstp ?_)); first | ((with_reducible refine And.intro (fun (hb : _ = true) => ?_) (fun (hb : _ = false) => ?_)) <;> replace hb := xnC hb <;> (try first | exact xfC | exact bff hb (by assumption) | exact bff (by assumption) hb)) | ((with_reducible refine And.intro ?_ ?_); focus exact xoC) | ((fail_if_success (with_reducible first | refine xgon ?_ | intro _)); (conv => whnf); (fail_if_success (fail_if_success (with_reducible first | refine xstp ?_ | refine xgon ?_ | intro _)))))
        )
      all_goals try (first | refine ManyK.mk ⟨_, g1, ?_⟩ | refine ManyK.mk ⟨_, g2, ?_⟩)
      all_goals (
        repeat' (first | (fail_if_success (with_reducible refine xstp ?_)); first | ((with_reducible refine And.intro ?_ ?_); focus exact xoC) | ((fail_if_success (with_reducible first | refine xgon ?_ | intro _)); (conv => whnf); (fail_if_success (fail_if_success (with_reducible first | refine xstp ?_ | refine xgon ?_ | intro _)))))
        )
      all_goals try (first | refine ManyK.mk ⟨_, g1, ?_⟩ | refine ManyK.mk ⟨_, g2, ?_⟩)
      all_goals (
        repeat' (first | (fail_if_success (with_reducible refine xstp ?_)); first | ((with_reducible refine And.intro ?_ ?_); focus exact xoC) | ((fail_if_success (with_reducible first | refine xgon ?_ | intro _)); (conv => whnf); (fail_if_success (fail_if_success (with_reducible first | refine xstp ?_ | refine xgon ?_ | intro _)))))
        )
      · rw [if_pos (.inl (mkS_nil.1 hb))] at hsn
        refine ⟨⟨k + 1, hkl⟩, [0, 1, 2, 3, 4], by simp only; omega, ?_⟩
        simp only [hts2, ← List.append_assoc, hsn]
        (repeat' first | refine And.intro ?_ ?_ | exact xeC | fail)
        all_goals first
          | exact xmC2
          | (rw [hcs]; omega)
          | omega
      · rw [getFst] at hb
        rw [if_pos (.inr (mkS_inj.1 hb))] at hsn
        refine ⟨⟨k + 1, hkl⟩, [0, 1, 2, 3, 4], by simp only; omega, ?_⟩
        simp only [hts2, ← List.append_assoc, hsn]
        (repeat' first | refine And.intro ?_ ?_ | exact xeC | fail)
        all_goals first
          | exact xmC2
          | (rw [hcs]; omega)
          | omega
      · rw [getFst] at hb
        rename_i h0
        rw [if_neg (fun q => q.elim (fun h => h0 (mkS_nil.2 h)) (fun h => hb (by rw [h])))] at hsn
        refine ⟨⟨k + 1, hkl⟩, [0, 1, 2, 3, 4], by simp only; omega, ?_⟩
        simp only [hts2, ← List.append_assoc, hsn]
        (repeat' first | refine And.intro ?_ ?_ | exact xeC | fail)
        all_goals first
          | exact xmC2
          | (rw [hcs]; omega)
          | omega
    · obtain rfl : k = (X.getD i default).e.T.length := by omega
      repeat' (first | (fail_if_success (with_reducible refine xstp ?_)); first | ((with_reducible refine And.intro (fun (hb : _ = true) => ?_) (fun (hb : _ = false) => ?_)) <;> replace hb := xnC hb <;> (try first | exact xfC | exact bff hb (by assumption) | exact bff (by assumption) hb)) | ((with_reducible refine And.intro ?_ ?_); focus exact xoC) | (with_reducible intro hc; (try simp only [capsP, and_true] at hc); (try exact xfC)) | ((fail_if_success (with_reducible first | refine xgon ?_ | intro _)); (conv => whnf); (fail_if_success (fail_if_success (with_reducible first | refine xstp ?_ | refine xgon ?_ | intro _)))))
      refine ⟨⟨i + 1, hlt⟩, [0, 1, 2, 3], by simp only; omega, ?_⟩
      rw [List.take_length, ← hts]
      (repeat' first | refine And.intro ?_ ?_ | exact xeC | fail)
      all_goals exact xmC2
  · obtain rfl : i = X.length := by omega
    have hta : b.L.take X.length = b.L := by rw [← hLl]; exact List.take_length
    repeat' (first | (fail_if_success (with_reducible refine xstp ?_)); first | ((with_reducible refine And.intro (fun (hb : _ = true) => ?_) (fun (hb : _ = false) => ?_)) <;> replace hb := xnC hb <;> (try first | exact xfC | exact bff hb (by assumption) | exact bff (by assumption) hb)) | (with_reducible intro hc; (try simp only [capsP, and_true] at hc); (try exact xfC)) | ((fail_if_success (with_reducible first | refine xgon ?_ | intro _)); (conv => whnf); (fail_if_success (fail_if_success (with_reducible first | refine xstp ?_ | refine xgon ?_ | intro _)))))
    rw [hta]
    refine FinK.mk ⟨[0, 1, 2, 3], _, _, ⟨rfl, rfl⟩, ?_⟩
    (repeat' first | refine And.intro ?_ ?_ | exact xeC | fail)
    all_goals exact xmC2
end Go.Proofs.YtkjkbpnhocjenaaGreat


namespace Go.Proofs.YtkjkbpnhocjenaaGreat
open Go.X
set_option linter.unusedSimpArgs false
set_option linter.unusedVariables false
open P4
open P5
set_option maxRecDepth 10000 in
theorem cIndexS (w : Bool) (l : List (List UInt8)) (c : Nat) (t : List UInt8) (hl : l.length ≤ 1000000000) :
    Ctr Tryz.prog 77 [.c (.sl 0 0 1 0 l.length c), .c (.s (mkS t))] [.one (stR w l c)]
      fun v h => (∃ k : Nat, t ∈ l ∧ v = .c (.i .i64 (k : Nat)) ∧ h = [.one (stR w l c)]) ∨ (t ∉ l ∧ v = .c (.i .i64 (-1)) ∧ h = [.one (stR w l c)]) := by
  refine Ctr.mk' tbv mixed Tryz.func77 rfl rfl rfl (fun _ _ => by kernel_rfl) (by kernel_rfl) (by rfl) (by rfl) (by (repeat' first | refine And.intro ?_ ?_ | exact xeC | fail)) ?_
  repeat' (first | (fail_if_success (with_reducible refine xstp ?_)); first | (with_reducible intro hc; (try simp only [capsP, and_true] at hc); (try exact xfC)) | ((fail_if_success (with_reducible first | refine xgon ?_ | intro _)); (conv => whnf); (fail_if_success (fail_if_success (with_reducible first | refine xstp ?_ | refine xgon ?_ | intro _)))))
  refine LoopK.mk' {i : Nat // i ≤ l.length ∧ t ∉ l.take i}
    (fun ⟨i, _⟩ => ⟨[(0, .c (.sl 0 0 1 0 l.length c)), (1, .c (.s (mkS t))), (7, .c (.i .i64 (l.length : Nat))), (8, .c (.i .i64 (i : Nat)))], [.one (stR w l c)]⟩) (fun k => l.length - k.1)
    ⟨⟨0, Nat.zero_le _, by simp⟩, [0], ?_⟩ ?_
  · (repeat' first | refine And.intro ?_ ?_ | exact xeC | fail)
  rintro ⟨i, hi, hq⟩
  have e2 : 0 + ((i : Nat) : Int).toNat = i := by omega
  repeat' (first | (fail_if_success (with_reducible refine xstp ?_)); first | ((with_reducible refine And.intro (fun (hb : _ = true) => ?_) (fun (hb : _ = false) => ?_)) <;> replace hb := xnC hb <;> (try first | exact xfC | exact bff hb (by assumption) | exact bff (by assumption) hb)) | ((with_reducible refine And.intro ?_ ?_); focus exact xoC) | (with_reducible intro hc; (try simp only [capsP, and_true] at hc); (try exact xfC)) | ((fail_if_success (with_reducible first | refine xgon ?_ | intro _)); (conv => whnf); (fail_if_success (fail_if_success (with_reducible first | refine xstp ?_ | refine xgon ?_ | intro _)))))
  · have e : t = l.getD i default := mkS_inj.1 hb
    refine FinK.mk ⟨[0], _, _, .inl ⟨i, by rw [e, getD_at (by omega)]; exact List.getElem_mem _, rfl, rfl⟩, ?_⟩
    (repeat' first | refine And.intro ?_ ?_ | exact xeC | fail)
  · refine ⟨⟨i + 1, by omega, fun hm => ?_⟩, [0], by simp only; omega, ?_⟩
    · rw [take_snocG l (by omega), List.mem_append] at hm
      rcases hm with hm | hm
      · exact hq hm
      · exact hb (by rw [List.mem_singleton.1 hm])
    · (repeat' first | refine And.intro ?_ ?_ | exact xeC | fail)
  · obtain rfl : i = l.length := by omega
    rw [List.take_length] at hq
    refine FinK.mk ⟨[0], _, _, .inr ⟨hq, rfl, rfl⟩, ?_⟩
    (repeat' first | refine And.intro ?_ ?_ | exact xeC | fail)
theorem rH41zbW0 {σ : List Sg} {H h' : List Fam} {v : T} {K : T → List Fam → Prop} {H' : List Fam} {v' : T} {N : Nat} (hk : K v' H') (hN : H.length = N := by (try simp only [↓List.length_cons, ↓List.length_nil, Nat.reduceAdd]) <;> rfl) (h : givesF σ N H σ h' = some H' := by (try simp (maxSteps := 1000000) only [givesF, setF, updF, Fam.zeroth, Fam.rk, Ck.rk, C.rk, E.rk, T.rk, key, List.map_cons, List.map_nil, List.cons_append, List.nil_append, List.length_cons, List.length_nil, Option.map_some, Option.bind_some, Nat.reduceAdd, Nat.zero_add, Nat.add_zero, Nat.add_sub_cancel_left, Int.toNat_natCast, reps, List.all_cons, List.all_nil, C.flat, List.append_eq, Bool.not_true, Bool.and_true, Bool.or_false, Bool.or_self, Bool.not_false, List.append_nil, Bool.and_self, ↓tpG_rk, ↓cnG_rk]) <;> rfl) (hv : v.rk σ N = v' := by (try simp only [givesF, setF, updF, Fam.zeroth, Fam.rk, Ck.rk, C.rk, E.rk, T.rk, key, List.map_cons, List.map_nil, List.cons_append, List.nil_append, List.length_cons, List.length_nil, Option.map_some, Option.bind_some, Nat.reduceAdd, Nat.zero_add, Nat.add_zero, Nat.add_sub_cancel_left, Int.toNat_natCast, reps, List.all_cons, List.all_nil, C.flat, List.append_eq, Bool.not_true, Bool.and_true, Bool.or_false, Bool.or_self, Bool.not_false, List.append_nil, Bool.and_self, ↓tpG_rk, ↓cnG_rk]) <;> rfl) : RetG σ H h' v K := ret_mk3 hN h hv hk
theorem cH41zbW1 {P : Program} {F : Nat} {args : List T} {H : List Fam} {K : T → List Fam → Prop} {σ : List Sg} {nl : List Fam} {args0 : List T} {h0 : List Fam} {Q : T → List Fam → Prop} {H2 H1 : List Fam} {N n : Nat} (hc : Ctr P F args0 h0 Q) (hk : ∀ v h', Q v h' → capsP h' → RetG σ H2 h' v K) (hap : apart σ = true := by rfl) (hnl : nl.all nilB = true := by rfl) (h1 : H ++ nl = H1 := by first | exact List.append_nil _ | ((try simp only [List.cons_append, List.nil_append]) <;> rfl)) (hN : H1.length = N := by (try simp only [↓List.length_cons, ↓List.length_nil, Nat.reduceAdd]) <;> rfl) (hn : H.length = n := by (try simp only [↓List.length_cons, ↓List.length_nil, Nat.reduceAdd]) <;> rfl) (hH : givesF σ N H1 σ h0 = some H2 := by (try simp (maxSteps := 1000000) only [givesF, setF, updF, Fam.zeroth, Fam.rk, Ck.rk, C.rk, E.rk, T.rk, key, List.map_cons, List.map_nil, List.cons_append, List.nil_append, List.length_cons, List.length_nil, Option.map_some, Option.bind_some, Nat.reduceAdd, Nat.zero_add, Nat.add_zero, Nat.add_sub_cancel_left, Int.toNat_natCast, reps, List.all_cons, List.all_nil, C.flat, List.append_eq, Bool.not_true, Bool.and_true, Bool.or_false, Bool.or_self, Bool.not_false, List.append_nil, Bool.and_self, ↓tpG_rk, ↓cnG_rk]) <;> rfl) (hle : leS n H1 σ N σ h0 (belsK N (h0.map (Fam.rk σ N)) (argsK n args (args0.map (T.rk σ N)) True)) := by repeat' first | refine And.intro ?_ ?_ | exact xeC | fail) : CallK P F args H K := CallK.mk3 hc hap hnl h1 hN hn hH hle hk
set_option maxRecDepth 10000 in
theorem cContains (w : Bool) (l : List (List UInt8)) (c : Nat) (t : List UInt8) (hl : l.length ≤ 1000000000) :
    Ctr Tryz.prog 47 [.c (.sl 0 0 1 0 l.length c), .c (.s (mkS t))] [.one (stR w l c)]
      fun v h => v = .c (.b (decide (t ∈ l))) ∧ h = [.one (stR w l c)] := by
  refine Ctr.mk' tbv mixed Tryz.func47 rfl rfl rfl (fun _ _ => by kernel_rfl) (by kernel_rfl) (by rfl) (by rfl) (by (repeat' first | refine And.intro ?_ ?_ | exact xeC | fail)) ?_
  repeat' (first | (fail_if_success (with_reducible refine xstp ?_)); first | (with_reducible intro hc; (try simp only [capsP, and_true] at hc); (try exact xfC)) | ((fail_if_success (with_reducible first | refine xgon ?_ | intro _)); (conv => whnf); (fail_if_success (fail_if_success (with_reducible first | refine xstp ?_ | refine xgon ?_ | intro _)))))
  refine cH41zbW1 (σ := [.whole 0]) (nl := []) (cIndexS w l c t hl) ?_
  rintro v h' hq hcaps
  rcases hq with ⟨k, hm, rfl, rfl⟩ | ⟨hm, rfl, rfl⟩
  · refine rH41zbW0 ?_
    repeat' (first | (fail_if_success (with_reducible refine xstp ?_)); first | ((fail_if_success (with_reducible first | refine xgon ?_ | intro _)); (conv => whnf); (fail_if_success (fail_if_success (with_reducible first | refine xstp ?_ | refine xgon ?_ | intro _)))))
    rw [decide_eq_true hm]
    refine FinK.mk ⟨[0], _, _, ⟨rfl, rfl⟩, ?_⟩; (repeat' first | refine And.intro ?_ ?_ | exact xeC | fail)
    all_goals (first | exact decide_eq_true (by omega) | exact decide_eq_false (by omega) | exact (decide_eq_true (by omega)).symm | exact (decide_eq_false (by omega)).symm | exact decide_eq_decide.2 (by omega))
  · refine rH41zbW0 ?_
    repeat' (first | (fail_if_success (with_reducible refine xstp ?_)); first | ((fail_if_success (with_reducible first | refine xgon ?_ | intro _)); (conv => whnf); (fail_if_success (fail_if_success (with_reducible first | refine xstp ?_ | refine xgon ?_ | intro _)))))
    rw [decide_eq_false hm]
    refine FinK.mk ⟨[0], _, _, ⟨rfl, rfl⟩, ?_⟩; (repeat' first | refine And.intro ?_ ?_ | exact xeC | fail)
    all_goals (first | exact decide_eq_true (by omega) | exact decide_eq_false (by omega) | exact (decide_eq_true (by omega)).symm | exact (decide_eq_false (by omega)).symm | exact decide_eq_decide.2 (by omega))
def offE (b : Bg) (i : Nat) : Nat := if i < b.L.length then (b.L.getD i default).off else b.ix
theorem offE_succ (b : Bg) (i : Nat) : offE b (i + 1) = endE b i := rfl
theorem chX_len (b : Bg) (k : Nat) : (chX b k).1.length ≤ endE b k - (b.L.getD k default).off := by
  have h := exaL_len ((b.s.take (endE b k)).drop (b.L.getD k default).off)
  rw [List.length_drop, List.length_take] at h
  unfold chX
  omega
theorem chL_len (b : Bg) (k : Nat) : (chL b k).length ≤ endE b k - (b.L.getD k default).off := by
  unfold chL
  split
  · have h1 := recL_len (mkS (chX b k).1)
    have h2 := chX_len b k
    have h3 : (mkS (chX b k).1).size = (chX b k).1.length := mkS_size _
    unfold chR1
    omega
  · simp
def comb (O : List Rc) (r : List Rc × Nat) : List Rc × Nat := if r.2 = 0 then (O ++ r.1, 0) else ([], r.2)
theorem rdB_skip {b : Bg} {t : List UInt8} {fr un : Int} {n k : Nat} {O : List Rc} (h : skipE (b.L.getD k default) t fr un) : comb O (rdB b t fr un (n + 1) k) = comb O (rdB b t fr un n (k + 1)) := by
  conv => lhs; unfold rdB
  rw [if_pos h]
theorem rdB_err {b : Bg} {t : List UInt8} {fr un : Int} {n k : Nat} {O : List Rc} (h : ¬ skipE (b.L.getD k default) t fr un) (he : chE b k ≠ 0) : comb O (rdB b t fr un (n + 1) k) = ([], chE b k) := by
  conv => lhs; unfold rdB
  rw [if_neg h, if_pos he]
  unfold comb
  rw [if_neg he]
theorem rdB_go {b : Bg} {t : List UInt8} {fr un : Int} {n k : Nat} {O : List Rc} (h : ¬ skipE (b.L.getD k default) t fr un) (he : chE b k = 0) : comb O (rdB b t fr un (n + 1) k) = comb (O ++ selR t fr un (chL b k)) (rdB b t fr un n (k + 1)) := by
  conv => lhs; unfold rdB
  rw [if_neg h, if_neg (by omega)]
  unfold comb
  by_cases h2 : (rdB b t fr un n (k + 1)).2 = 0
  · rw [if_pos h2, if_pos rfl, if_pos h2, List.append_assoc]
  · rw [if_neg h2, if_neg h2, if_neg h2]
theorem selR_snoc (t : List UInt8) (fr un : Int) (l : List Rc) (r : Rc) : selR t fr un (l ++ [r]) = selR t fr un l ++ if (t = [] ∨ r.tp = t) ∧ fr ≤ r.at_ ∧ r.at_ < un then [r] else [] := by
  unfold selR
  rw [List.filter_append]
  congr 1
  by_cases h : (t = [] ∨ r.tp = t) ∧ fr ≤ r.at_ ∧ r.at_ < un
  · rw [if_pos h]; simp [h]
  · rw [if_neg h]; simp [h]
theorem selR_le (t : List UInt8) (fr un : Int) (l : List Rc) : (selR t fr un l).length ≤ l.length := List.length_filter_le _ _
theorem selR_0 (O : List Rc) (t : List UInt8) (fr un : Int) (L : List Rc) : O ++ selR t fr un (L.take 0) = O := by simp [selR]
structure RdI (b : Bg) (t : List UInt8) (fr un : Int) (i : Nat) (O : List Rc) : Prop where
  le : i ≤ b.L.length
  len : O.length ≤ offE b i
  q : readB b t fr un = comb O (rdB b t fr un (b.L.length - i) i)
theorem offE_le {b : Bg} (hb : BOk b) {i : Nat} (h : i < b.L.length) : offE b i = (b.L.getD i default).off ∧ (b.L.getD i default).off ≤ endE b i ∧ endE b i ≤ b.s.length := by
  have := hb.at h
  exact ⟨if_pos h, this.2.1, this.2.2.1⟩
theorem RdI.skip {b : Bg} {t : List UInt8} {fr un : Int} {i : Nat} {O : List Rc} (hb : BOk b) (h : RdI b t fr un i O) (hi : i < b.L.length) (hs : skipE (b.L.getD i default) t fr un) : RdI b t fr un (i + 1) O := by
  have h1 := offE_le hb hi
  have h2 := h.len
  refine ⟨hi, by rw [offE_succ]; omega, ?_⟩
  have h3 := h.q
  rw [show b.L.length - i = (b.L.length - (i + 1)) + 1 by omega, rdB_skip hs] at h3
  exact h3
theorem RdI.go {b : Bg} {t : List UInt8} {fr un : Int} {i : Nat} {O : List Rc} (hb : BOk b) (h : RdI b t fr un i O) (hi : i < b.L.length) (hs : ¬ skipE (b.L.getD i default) t fr un) (he : chE b i = 0) : RdI b t fr un (i + 1) (O ++ selR t fr un (chL b i)) := by
  have h1 := offE_le hb hi
  have h2 := h.len
  have h4 := chL_len b i
  have h5 := selR_le t fr un (chL b i)
  refine ⟨hi, by rw [offE_succ, List.length_append]; omega, ?_⟩
  have h3 := h.q
  rw [show b.L.length - i = (b.L.length - (i + 1)) + 1 by omega, rdB_go hs he] at h3
  exact h3
theorem RdI.err {b : Bg} {t : List UInt8} {fr un : Int} {i : Nat} {O : List Rc} (h : RdI b t fr un i O) (hi : i < b.L.length) (hs : ¬ skipE (b.L.getD i default) t fr un) (he : chE b i ≠ 0) : readB b t fr un = ([], chE b i) := by
  have h3 := h.q
  rw [show b.L.length - i = (b.L.length - (i + 1)) + 1 by omega, rdB_err hs he] at h3
  exact h3
theorem RdI.fin {b : Bg} {t : List UInt8} {fr un : Int} {O : List Rc} (h : RdI b t fr un b.L.length O) : readB b t fr un = (O, 0) := by
  have h3 := h.q
  rw [Nat.sub_self] at h3
  rw [h3]
  simp [comb, rdB]
theorem RdI.init (b : Bg) (t : List UInt8) (fr un : Int) : RdI b t fr un 0 [] := by
  refine ⟨Nat.zero_le _, Nat.zero_le _, ?_⟩
  unfold readB comb
  rw [Nat.sub_zero]
  by_cases h : (rdB b t fr un b.L.length 0).2 = 0
  · rw [if_pos h]
    exact Prod.ext (by simp) h
  · rw [if_neg h]
    refine Prod.ext ?_ rfl
    have : ∀ n k, (rdB b t fr un n k).2 ≠ 0 → (rdB b t fr un n k).1 = [] := by
      intro n
      induction n with
      | zero => intro k hk; simp [rdB] at hk
      | succ n ih =>
        intro k hk
        unfold rdB at hk ⊢
        split
        · rename_i hs; rw [if_pos hs] at hk; exact ih _ hk
        · rename_i hs
          rw [if_neg hs] at hk
          split
          · rfl
          · rename_i hc
            rw [if_neg hc] at hk
            split
            · rename_i h0; rw [if_pos h0] at hk; exact absurd rfl hk
            · rfl
    exact this _ _ h
set_option maxRecDepth 10000 in
set_option maxHeartbeats 16000000 in
theorem cRead (b : Bg) (X : List Ep) (c : Nat) (t : List UInt8) (fr un : Int) (hB : BOk b) (hX : es X = b.L) :
    Ctr Tryz.prog 16 [.c (.p 0 0 0), .c (.s (mkS t)), .c (.i .i64 fr), .c (.i .i64 un)] (bagH b X c)
      fun v h => ∃ c', v = .t [.c (.sl 4 0 3 0 (readB b t fr un).1.length c'), .c (.i .i64 ((readB b t fr un).2 : Nat))] ∧ h = bagH b X c ++ [.one (rcR true (readB b t fr un).1 c')] := by
  have hLl : b.L.length = X.length := by rw [← hX]; exact List.length_map _
  have hgk : ∀ i, b.L.getD i default = (X.getD i default).e := fun i => by rw [← hX, getEs]
  have hn := hB.n
  have hlen := hB.len
  refine Ctr.mk' tbv mixed Tryz.func16 rfl rfl rfl (fun _ _ => by kernel_rfl) (by kernel_rfl) (by rfl) (by rfl) (by (repeat' first | refine And.intro ?_ ?_ | exact xeC | fail) <;> exact xmC2) ?_
  repeat' (first | (fail_if_success (with_reducible refine xstp ?_)); first | (with_reducible intro hc; (try simp only [capsP, and_true] at hc); (try exact xfC)) | ((fail_if_success (with_reducible first | refine xgon ?_ | intro _)); (conv => whnf); (fail_if_success (fail_if_success (with_reducible first | refine xstp ?_ | refine xgon ?_ | intro _)))))
  refine LoopK.mk' {p : Nat × List Rc × Nat // RdI b t fr un p.1 p.2.1}
    (fun ⟨(i, O, c1), _⟩ => ⟨[(0, .c (.p 0 0 0)), (1, .c (.s (mkS t))), (2, .c (.i .i64 fr)), (3, .c (.i .i64 un)), (10, .c (.sl 4 0 3 0 O.length c1)), (22, .c (.sl 1 0 5 0 X.length c)), (23, .c (.i .i64 (X.length : Nat))), (24, .c (.i .i64 (i : Nat)))],
      [.one (bgC b 1 X.length c), .one (epR 2 3 X c), .many (tpG X), .many (cnG X), .one (rcR true O c1)]⟩) (fun p => X.length - p.1.1)
    ⟨⟨(0, [], 0), RdI.init b t fr un⟩, [0, 1, 2, 3, 99], ?_⟩ ?_
  · (repeat' first | refine And.intro ?_ ?_ | exact xeC | fail)
    all_goals first
      | exact xmC2
      | (intro i hi; exact absurd hi (Nat.not_lt_zero i))
      | skip
  rintro ⟨⟨i, O, c1⟩, hI⟩
  simp only at hI
  have hil := hI.le
  have hOl := hI.len
  have e2 : 0 + ((i : Nat) : Int).toNat = i := by omega
  rcases Nat.lt_or_ge i X.length with hlt | hge
  · have g1 : ixG tpC X i = stR true ((X.getD i default).e.T.map Prod.fst) (X.getD i default).c1 := ixG_at hlt
    have hm1 : ((X.getD i default).e.T.map Prod.fst).length = (X.getD i default).e.T.length := List.length_map _
    have hTl := (hB.sz (b.L.getD i default) (by rw [getD_at (by omega)]; exact List.getElem_mem _)).1
    rw [hgk] at hTl
    have hof := offE_le hB (i := i) (by omega)
    have hsk : skipE (b.L.getD i default) t fr un ↔ ¬ hasT (X.getD i default).e t ∨ ((X.getD i default).e.la : Int) < fr ∨ un ≤ ((X.getD i default).e.fi : Int) := by rw [hgk]; exact Iff.rfl
    have hset : ∀ ck, ck = ixG tpC X i → (fun y => if y = i then ck else if y = i then ck else tpG X y) = tpG X := fun ck h => by
      funext y
      by_cases e : y = i
      · rw [if_pos e, h, e]
      · rw [if_neg e, if_neg e]
    repeat' (first | (fail_if_success (with_reducible refine xstp ?_)); first | ((with_reducible refine And.intro (fun (hb : _ = true) => ?_) (fun (hb : _ = false) => ?_)) <;> replace hb := xnC hb <;> (try first | exact xfC | exact bff hb (by assumption) | exact bff (by assumption) hb)) | ((with_reducible refine And.intro ?_ ?_); focus exact xoC) | (with_reducible intro hc; (try simp only [capsP, and_true] at hc); (try exact xfC)) | ((fail_if_success (with_reducible first | refine xgon ?_ | intro _)); (conv => whnf); (fail_if_success (fail_if_success (with_reducible first | refine xstp ?_ | refine xgon ?_ | intro _)))))
    · have hte : t ≠ [] := fun h => hb (mkS_nil.2 h)
      clear hb
      rw [e2]
      by_cases hm : t ∈ (X.getD i default).e.T.map Prod.fst
      · refine cH41zbW1 (σ := [.mem 2 i]) (nl := []) (cContains true ((X.getD i default).e.T.map Prod.fst) (X.getD i default).c1 t (by omega)) ?_ (hle := by (repeat' first | refine And.intro ?_ ?_ | exact xeC | fail) <;> (first | (refine ManyK.mk ⟨_, g1, ?_⟩ <;> (repeat' first | refine And.intro ?_ ?_ | exact xeC | fail) <;> (first | exact hm1.symm | skip)) | exact xmC2))
        rintro v h' ⟨rfl, rfl⟩ hcaps
        rw [decide_eq_true hm]
        refine rH41zbW0 ?_
        rw [hset _ g1.symm]
        repeat' (first | (fail_if_success (with_reducible refine xstp ?_)); first | ((with_reducible refine And.intro (fun (hb : _ = true) => ?_) (fun (hb : _ = false) => ?_)) <;> replace hb := xnC hb <;> (try first | exact xfC | exact bff hb (by assumption) | exact bff (by assumption) hb)) | ((with_reducible refine And.intro ?_ ?_); focus exact xoC) | ((fail_if_success (with_reducible first | refine xgon ?_ | intro _)); (conv => whnf); (fail_if_success (fail_if_success (with_reducible first | refine xstp ?_ | refine xgon ?_ | intro _)))))
        · skip
          refine ⟨⟨(i + 1, O, c1), hI.skip hB (by omega) (hsk.2 (.inr (.inl (by omega))))⟩, [0, 1, 2, 3, 4], by simp only; omega, ?_⟩
          (repeat' first | refine And.intro ?_ ?_ | exact xeC | fail)
          all_goals exact xmC2
        · skip
          refine ⟨⟨(i + 1, O, c1), hI.skip hB (by omega) (hsk.2 (.inr (.inr (by omega))))⟩, [0, 1, 2, 3, 4], by simp only; omega, ?_⟩
          (repeat' first | refine And.intro ?_ ?_ | exact xeC | fail)
          all_goals exact xmC2
        · skip
          have hns : ¬ skipE (b.L.getD i default) t fr un := fun q => by
            rcases hsk.1 q with q | q | q
            · exact q (.inr hm)
            · omega
            · omega
          clear hsk
          refine cH41zbW1 (σ := [.whole 0, .whole 1, .whole 2, .whole 3]) (nl := []) (cchunk b X c i hB hX hlt) ?_ (hle := by (repeat' first | refine And.intro ?_ ?_ | exact xeC | fail) <;> exact xmC2)
          rintro v h' ⟨c3, rfl, rfl⟩ hcaps
          refine rH41zbW0 ?_
          repeat' (first | (fail_if_success (with_reducible refine xstp ?_)); first | ((with_reducible refine And.intro (fun (hb : _ = true) => ?_) (fun (hb : _ = false) => ?_)) <;> replace hb := xnC hb <;> (try first | exact xfC | exact bff hb (by assumption) | exact bff (by assumption) hb)) | ((fail_if_success (with_reducible first | refine xgon ?_ | intro _)); (conv => whnf); (fail_if_success (fail_if_success (with_reducible first | refine xstp ?_ | refine xgon ?_ | intro _)))))
          · have hE : chE b i ≠ 0 := by omega
            rw [hI.err (by omega) hns hE]
            refine FinK.mk ⟨[0, 1, 2, 3, 99], _, _, ⟨0, rfl, rfl⟩, ?_⟩
            (repeat' first | refine And.intro ?_ ?_ | exact xeC | fail)
            all_goals exact xmC2
          have hE : chE b i = 0 := by omega
          have hcL := chL_len b i
          have hgo := hI.go hB (by omega) hns hE
          generalize chL b i = L at *
          refine LoopK.mk' {p : Nat × Nat // p.1 ≤ L.length}
            (fun ⟨(j, c2), _⟩ => ⟨[(0, .c (.p 0 0 0)), (1, .c (.s (mkS t))), (2, .c (.i .i64 fr)), (3, .c (.i .i64 un)), (10, .c (.sl 4 0 3 0 (O ++ selR t fr un (L.take j)).length c2)), (22, .c (.sl 1 0 5 0 X.length c)), (23, .c (.i .i64 (X.length : Nat))), (24, .c (.i .i64 (i : Nat))), (59, .c (.sl 5 0 3 0 L.length c3)), (60, .c (.i .i64 (L.length : Nat))), (61, .c (.i .i64 (j : Nat)))],
              [.one (bgC b 1 X.length c), .one (epR 2 3 X c), .many (tpG X), .many (cnG X), .one (rcR true (O ++ selR t fr un (L.take j)) c2), .one (rcR true L c3)]⟩) (fun p => L.length - p.1.1)
            ⟨⟨(0, c1), Nat.zero_le _⟩, [0, 1, 2, 3, 4, 6], ?_⟩ ?_
          · (repeat' first | refine And.intro ?_ ?_ | exact xeC | fail)
            all_goals first
              | exact xmC2
              | (rw [selR_0]; done)
              | (rw [selR_0]; exact Nat.le_refl _)
              | (rw [selR_0]; intro i hi; rfl)
              | (rw [selR_0]; rfl)
              | skip
          rintro ⟨⟨j, c2⟩, hj⟩
          simp only at hj
          have hselj := selR_le t fr un (L.take j)
          rw [List.length_take] at hselj
          have hOb : (O ++ selR t fr un (L.take j)).length ≤ 200000000 := by rw [List.length_append]; omega
          have e3 : 0 + ((j : Nat) : Int).toNat = j := by omega
          rcases Nat.lt_or_ge j L.length with hjl | hjg
          · have hts := selR_snoc t fr un (L.take j) (L.getD j default)
            rw [← take_snocG L hjl] at hts
            repeat' (first | (fail_if_success (with_reducible refine xstp ?_)); first | ((with_reducible refine And.intro (fun (hb : _ = true) => ?_) (fun (hb : _ = false) => ?_)) <;> replace hb := xnC hb <;> (try first | exact xfC | exact bff hb (by assumption) | exact bff (by assumption) hb)) | ((with_reducible refine And.intro ?_ ?_); focus exact xoC) | ((with_reducible refine Or.inl ⟨?_, ?_, ?_⟩); (focus rfl); focus exact xaC) | (with_reducible intro hc; (try simp only [capsP, and_true] at hc); (try exact xfC)) | ((fail_if_success (with_reducible first | refine xgon ?_ | intro _)); (conv => whnf); (fail_if_success (fail_if_success (with_reducible first | refine xstp ?_ | refine xgon ?_ | intro _)))))
            · skip
              rename_i c4
              rw [e3]
              rw [if_pos ⟨(.inl (mkS_nil.1 (by assumption))), by omega, by omega⟩] at hts
              refine ⟨⟨(j + 1, c4), hjl⟩, [0, 1, 2, 3, 8, 5], by simp only; omega, ?_⟩
              simp only [hts, ← List.append_assoc]
              (repeat' first | refine And.intro ?_ ?_ | exact xeC | fail)
              all_goals first
                | exact xmC2
                | skip
              all_goals first | omega | (simp only [List.length_append, List.length_singleton]; done) | (rw [List.length_append, List.length_singleton]; omega) | (intro i hi; (first | refine app_rowG _ _ _ _ ?_ i hi | refine app_row _ _ _ ?_ i hi); first | rfl | (simp only [Int.toNat_natCast, Nat.zero_add]; rfl))
            · skip
              rw [if_neg (fun q => by omega), List.append_nil] at hts
              refine ⟨⟨(j + 1, c2), hjl⟩, [0, 1, 2, 3, 4, 5], by simp only; omega, ?_⟩
              simp only [hts]
              (repeat' first | refine And.intro ?_ ?_ | exact xeC | fail)
              all_goals first
                | exact xmC2
                | skip
            · skip
              rw [if_neg (fun q => by omega), List.append_nil] at hts
              refine ⟨⟨(j + 1, c2), hjl⟩, [0, 1, 2, 3, 4, 5], by simp only; omega, ?_⟩
              simp only [hts]
              (repeat' first | refine And.intro ?_ ?_ | exact xeC | fail)
              all_goals first
                | exact xmC2
                | skip
            · skip
              rename_i c4
              rw [e3]
              rw [if_pos ⟨(.inr (mkS_inj.1 (by assumption))), by omega, by omega⟩] at hts
              refine ⟨⟨(j + 1, c4), hjl⟩, [0, 1, 2, 3, 8, 5], by simp only; omega, ?_⟩
              simp only [hts, ← List.append_assoc]
              (repeat' first | refine And.intro ?_ ?_ | exact xeC | fail)
              all_goals first
                | exact xmC2
                | skip
              all_goals first | omega | (simp only [List.length_append, List.length_singleton]; done) | (rw [List.length_append, List.length_singleton]; omega) | (intro i hi; (first | refine app_rowG _ _ _ _ ?_ i hi | refine app_row _ _ _ ?_ i hi); first | rfl | (simp only [Int.toNat_natCast, Nat.zero_add]; rfl))
            · skip
              rw [if_neg (fun q => by omega), List.append_nil] at hts
              refine ⟨⟨(j + 1, c2), hjl⟩, [0, 1, 2, 3, 4, 5], by simp only; omega, ?_⟩
              simp only [hts]
              (repeat' first | refine And.intro ?_ ?_ | exact xeC | fail)
              all_goals first
                | exact xmC2
                | skip
            · skip
              rw [if_neg (fun q => by omega), List.append_nil] at hts
              refine ⟨⟨(j + 1, c2), hjl⟩, [0, 1, 2, 3, 4, 5], by simp only; omega, ?_⟩
              simp only [hts]
              (repeat' first | refine And.intro ?_ ?_ | exact xeC | fail)
              all_goals first
                | exact xmC2
                | skip
            · rename_i h5
              rw [if_neg (fun q => q.1.elim (fun h => h5 (mkS_nil.2 h)) (fun h => hb (by rw [h]))), List.append_nil] at hts
              refine ⟨⟨(j + 1, c2), hjl⟩, [0, 1, 2, 3, 4, 5], by simp only; omega, ?_⟩
              simp only [hts]
              (repeat' first | refine And.intro ?_ ?_ | exact xeC | fail)
              all_goals first
                | exact xmC2
                | skip
          · obtain rfl : j = L.length := by omega
            repeat' (first | (fail_if_success (with_reducible refine xstp ?_)); first | ((with_reducible refine And.intro (fun (hb : _ = true) => ?_) (fun (hb : _ = false) => ?_)) <;> replace hb := xnC hb <;> (try first | exact xfC | exact bff hb (by assumption) | exact bff (by assumption) hb)) | ((with_reducible refine And.intro ?_ ?_); focus exact xoC) | (with_reducible intro hc; (try simp only [capsP, and_true] at hc); (try exact xfC)) | ((fail_if_success (with_reducible first | refine xgon ?_ | intro _)); (conv => whnf); (fail_if_success (fail_if_success (with_reducible first | refine xstp ?_ | refine xgon ?_ | intro _)))))
            rw [List.take_length]
            refine ⟨⟨(i + 1, O ++ selR t fr un L, c2), hgo⟩, [0, 1, 2, 3, 4], by simp only; omega, ?_⟩
            (repeat' first | refine And.intro ?_ ?_ | exact xeC | fail)
            all_goals first
              | exact xmC2
              | skip
      · refine cH41zbW1 (σ := [.mem 2 i]) (nl := []) (cContains true ((X.getD i default).e.T.map Prod.fst) (X.getD i default).c1 t (by omega)) ?_ (hle := by (repeat' first | refine And.intro ?_ ?_ | exact xeC | fail) <;> (first | (refine ManyK.mk ⟨_, g1, ?_⟩ <;> (repeat' first | refine And.intro ?_ ?_ | exact xeC | fail) <;> (first | exact hm1.symm | skip)) | exact xmC2))
        rintro v h' ⟨rfl, rfl⟩ hcaps
        rw [decide_eq_false hm]
        refine rH41zbW0 ?_
        rw [hset _ g1.symm]
        repeat' (first | (fail_if_success (with_reducible refine xstp ?_)); first | ((with_reducible refine And.intro (fun (hb : _ = true) => ?_) (fun (hb : _ = false) => ?_)) <;> replace hb := xnC hb <;> (try first | exact xfC | exact bff hb (by assumption) | exact bff (by assumption) hb)) | ((with_reducible refine And.intro ?_ ?_); focus exact xoC) | ((fail_if_success (with_reducible first | refine xgon ?_ | intro _)); (conv => whnf); (fail_if_success (fail_if_success (with_reducible first | refine xstp ?_ | refine xgon ?_ | intro _)))))
        refine ⟨⟨(i + 1, O, c1), hI.skip hB (by omega) (hsk.2 (.inl fun q => q.elim hte hm))⟩, [0, 1, 2, 3, 4], by simp only; omega, ?_⟩
        (repeat' first | refine And.intro ?_ ?_ | exact xeC | fail)
        all_goals exact xmC2
    · skip
      refine ⟨⟨(i + 1, O, c1), hI.skip hB (by omega) (hsk.2 (.inr (.inl (by omega))))⟩, [0, 1, 2, 3, 4], by simp only; omega, ?_⟩
      (repeat' first | refine And.intro ?_ ?_ | exact xeC | fail)
      all_goals exact xmC2
    · skip
      refine ⟨⟨(i + 1, O, c1), hI.skip hB (by omega) (hsk.2 (.inr (.inr (by omega))))⟩, [0, 1, 2, 3, 4], by simp only; omega, ?_⟩
      (repeat' first | refine And.intro ?_ ?_ | exact xeC | fail)
      all_goals exact xmC2
    · rename_i h0 h1
      have hte : t = [] := mkS_nil.1 h0
      rw [e2]
      have hns : ¬ skipE (b.L.getD i default) t fr un := fun q => by
        rcases hsk.1 q with q | q | q
        · exact q (.inl hte)
        · omega
        · omega
      clear hsk
      refine cH41zbW1 (σ := [.whole 0, .whole 1, .whole 2, .whole 3]) (nl := []) (cchunk b X c i hB hX hlt) ?_ (hle := by (repeat' first | refine And.intro ?_ ?_ | exact xeC | fail) <;> exact xmC2)
      rintro v h' ⟨c3, rfl, rfl⟩ hcaps
      refine rH41zbW0 ?_
      repeat' (first | (fail_if_success (with_reducible refine xstp ?_)); first | ((with_reducible refine And.intro (fun (hb : _ = true) => ?_) (fun (hb : _ = false) => ?_)) <;> replace hb := xnC hb <;> (try first | exact xfC | exact bff hb (by assumption) | exact bff (by assumption) hb)) | ((fail_if_success (with_reducible first | refine xgon ?_ | intro _)); (conv => whnf); (fail_if_success (fail_if_success (with_reducible first | refine xstp ?_ | refine xgon ?_ | intro _)))))
      · have hE : chE b i ≠ 0 := by omega
        rw [hI.err (by omega) hns hE]
        refine FinK.mk ⟨[0, 1, 2, 3, 99], _, _, ⟨0, rfl, rfl⟩, ?_⟩
        (repeat' first | refine And.intro ?_ ?_ | exact xeC | fail)
        all_goals exact xmC2
      have hE : chE b i = 0 := by omega
      have hcL := chL_len b i
      have hgo := hI.go hB (by omega) hns hE
      generalize chL b i = L at *
      refine LoopK.mk' {p : Nat × Nat // p.1 ≤ L.length}
        (fun ⟨(j, c2), _⟩ => ⟨[(0, .c (.p 0 0 0)), (1, .c (.s (mkS t))), (2, .c (.i .i64 fr)), (3, .c (.i .i64 un)), (10, .c (.sl 4 0 3 0 (O ++ selR t fr un (L.take j)).length c2)), (22, .c (.sl 1 0 5 0 X.length c)), (23, .c (.i .i64 (X.length : Nat))), (24, .c (.i .i64 (i : Nat))), (59, .c (.sl 5 0 3 0 L.length c3)), (60, .c (.i .i64 (L.length : Nat))), (61, .c (.i .i64 (j : Nat)))],
          [.one (bgC b 1 X.length c), .one (epR 2 3 X c), .many (tpG X), .many (cnG X), .one (rcR true (O ++ selR t fr un (L.take j)) c2), .one (rcR true L c3)]⟩) (fun p => L.length - p.1.1)
        ⟨⟨(0, c1), Nat.zero_le _⟩, [0, 1, 2, 3, 4, 6], ?_⟩ ?_
      · (repeat' first | refine And.intro ?_ ?_ | exact xeC | fail)
        all_goals first
          | exact xmC2
          | (rw [selR_0]; done)
          | (rw [selR_0]; exact Nat.le_refl _)
          | (rw [selR_0]; intro i hi; rfl)
          | (rw [selR_0]; rfl)
          | skip
      rintro ⟨⟨j, c2⟩, hj⟩
      simp only at hj
      have hselj := selR_le t fr un (L.take j)
      rw [List.length_take] at hselj
      have hOb : (O ++ selR t fr un (L.take j)).length ≤ 200000000 := by rw [List.length_append]; omega
      have e3 : 0 + ((j : Nat) : Int).toNat = j := by omega
      rcases Nat.lt_or_ge j L.length with hjl | hjg
      · have hts := selR_snoc t fr un (L.take j) (L.getD j default)
        rw [← take_snocG L hjl] at hts
        repeat' (first | (fail_if_success (with_reducible refine xstp ?_)); first | ((with_reducible refine And.intro (fun (hb : _ = true) => ?_) (fun (hb : _ = false) => ?_)) <;> replace hb := xnC hb <;> (try first | exact xfC | exact bff hb (by assumption) | exact bff (by assumption) hb)) | ((with_reducible refine And.intro ?_ ?_); focus exact xoC) | ((with_reducible refine Or.inl ⟨?_, ?_, ?_⟩); (focus rfl); focus exact xaC) | (with_reducible intro hc; (try simp only [capsP, and_true] at hc); (try exact xfC)) | ((fail_if_success (with_reducible first | refine xgon ?_ | intro _)); (conv => whnf); (fail_if_success (fail_if_success (with_reducible first | refine xstp ?_ | refine xgon ?_ | intro _)))))
        · skip
          rename_i c4
          rw [e3]
          rw [if_pos ⟨(.inl (mkS_nil.1 (by assumption))), by omega, by omega⟩] at hts
          refine ⟨⟨(j + 1, c4), hjl⟩, [0, 1, 2, 3, 8, 5], by simp only; omega, ?_⟩
          simp only [hts, ← List.append_assoc]
          (repeat' first | refine And.intro ?_ ?_ | exact xeC | fail)
          all_goals first
            | exact xmC2
            | skip
          all_goals first | omega | (simp only [List.length_append, List.length_singleton]; done) | (rw [List.length_append, List.length_singleton]; omega) | (intro i hi; (first | refine app_rowG _ _ _ _ ?_ i hi | refine app_row _ _ _ ?_ i hi); first | rfl | (simp only [Int.toNat_natCast, Nat.zero_add]; rfl))
        · skip
          rw [if_neg (fun q => by omega), List.append_nil] at hts
          refine ⟨⟨(j + 1, c2), hjl⟩, [0, 1, 2, 3, 4, 5], by simp only; omega, ?_⟩
          simp only [hts]
          (repeat' first | refine And.intro ?_ ?_ | exact xeC | fail)
          all_goals first
            | exact xmC2
            | skip
        · skip
          rw [if_neg (fun q => by omega), List.append_nil] at hts
          refine ⟨⟨(j + 1, c2), hjl⟩, [0, 1, 2, 3, 4, 5], by simp only; omega, ?_⟩
          simp only [hts]
          (repeat' first | refine And.intro ?_ ?_ | exact xeC | fail)
          all_goals first
            | exact xmC2
            | skip
        · skip
          rename_i c4
          rw [e3]
          rw [if_pos ⟨(.inr (mkS_inj.1 (by assumption))), by omega, by omega⟩] at hts
          refine ⟨⟨(j + 1, c4), hjl⟩, [0, 1, 2, 3, 8, 5], by simp only; omega, ?_⟩
          simp only [hts, ← List.append_assoc]
          (repeat' first | refine And.intro ?_ ?_ | exact xeC | fail)
          all_goals first
            | exact xmC2
            | skip
          all_goals first | omega | (simp only [List.length_append, List.length_singleton]; done) | (rw [List.length_append, List.length_singleton]; omega) | (intro i hi; (first | refine app_rowG _ _ _ _ ?_ i hi | refine app_row _ _ _ ?_ i hi); first | rfl | (simp only [Int.toNat_natCast, Nat.zero_add]; rfl))
        · skip
          rw [if_neg (fun q => by omega), List.append_nil] at hts
          refine ⟨⟨(j + 1, c2), hjl⟩, [0, 1, 2, 3, 4, 5], by simp only; omega, ?_⟩
          simp only [hts]
          (repeat' first | refine And.intro ?_ ?_ | exact xeC | fail)
          all_goals first
            | exact xmC2
            | skip
        · skip
          rw [if_neg (fun q => by omega), List.append_nil] at hts
          refine ⟨⟨(j + 1, c2), hjl⟩, [0, 1, 2, 3, 4, 5], by simp only; omega, ?_⟩
          simp only [hts]
          (repeat' first | refine And.intro ?_ ?_ | exact xeC | fail)
          all_goals first
            | exact xmC2
            | skip
        · rename_i h5
          rw [if_neg (fun q => q.1.elim (fun h => h5 (mkS_nil.2 h)) (fun h => hb (by rw [h]))), List.append_nil] at hts
          refine ⟨⟨(j + 1, c2), hjl⟩, [0, 1, 2, 3, 4, 5], by simp only; omega, ?_⟩
          simp only [hts]
          (repeat' first | refine And.intro ?_ ?_ | exact xeC | fail)
          all_goals first
            | exact xmC2
            | skip
      · obtain rfl : j = L.length := by omega
        repeat' (first | (fail_if_success (with_reducible refine xstp ?_)); first | ((with_reducible refine And.intro (fun (hb : _ = true) => ?_) (fun (hb : _ = false) => ?_)) <;> replace hb := xnC hb <;> (try first | exact xfC | exact bff hb (by assumption) | exact bff (by assumption) hb)) | ((with_reducible refine And.intro ?_ ?_); focus exact xoC) | (with_reducible intro hc; (try simp only [capsP, and_true] at hc); (try exact xfC)) | ((fail_if_success (with_reducible first | refine xgon ?_ | intro _)); (conv => whnf); (fail_if_success (fail_if_success (with_reducible first | refine xstp ?_ | refine xgon ?_ | intro _)))))
        rw [List.take_length]
        refine ⟨⟨(i + 1, O ++ selR t fr un L, c2), hgo⟩, [0, 1, 2, 3, 4], by simp only; omega, ?_⟩
        (repeat' first | refine And.intro ?_ ?_ | exact xeC | fail)
        all_goals first
          | exact xmC2
          | skip
  · obtain rfl : i = X.length := by omega
    repeat' (first | (fail_if_success (with_reducible refine xstp ?_)); first | ((with_reducible refine And.intro (fun (hb : _ = true) => ?_) (fun (hb : _ = false) => ?_)) <;> replace hb := xnC hb <;> (try first | exact xfC | exact bff hb (by assumption) | exact bff (by assumption) hb)) | (with_reducible intro hc; (try simp only [capsP, and_true] at hc); (try exact xfC)) | ((fail_if_success (with_reducible first | refine xgon ?_ | intro _)); (conv => whnf); (fail_if_success (fail_if_success (with_reducible first | refine xstp ?_ | refine xgon ?_ | intro _)))))
    rw [(show readB b t fr un = (O, 0) from RdI.fin (by rw [hLl]; exact hI))]
    refine FinK.mk ⟨[0, 1, 2, 3, 4], _, _, ⟨c1, rfl, rfl⟩, ?_⟩
    (repeat' first | refine And.intro ?_ ?_ | exact xeC | fail)
    all_goals exact xmC2
end Go.Proofs.YtkjkbpnhocjenaaGreat


namespace Go.Proofs.YtkjkbpnhocjenaaGreat
open Go.X
set_option linter.unusedSimpArgs false
set_option linter.unusedVariables false
open P4
open P5
theorem rH41zbY0 {σ : List Sg} {H h' : List Fam} {v : T} {K : T → List Fam → Prop} {H' : List Fam} {v' : T} {N : Nat} (hk : K v' H') (hN : H.length = N := by (try simp only [↓List.length_cons, ↓List.length_nil, Nat.reduceAdd]) <;> rfl) (h : givesF σ N H σ h' = some H' := by (try simp (maxSteps := 1000000) only [givesF, setF, updF, Fam.zeroth, Fam.rk, Ck.rk, C.rk, E.rk, T.rk, key, List.map_cons, List.map_nil, List.cons_append, List.nil_append, List.length_cons, List.length_nil, Option.map_some, Option.bind_some, Nat.reduceAdd, Nat.zero_add, Nat.add_zero, Nat.add_sub_cancel_left, Int.toNat_natCast, reps, List.all_cons, List.all_nil, C.flat, List.append_eq, Bool.not_true, Bool.and_true, Bool.or_false, Bool.or_self, Bool.not_false, List.append_nil, Bool.and_self, ↓tpG_rk, ↓cnG_rk]) <;> rfl) (hv : v.rk σ N = v' := by (try simp only [givesF, setF, updF, Fam.zeroth, Fam.rk, Ck.rk, C.rk, E.rk, T.rk, key, List.map_cons, List.map_nil, List.cons_append, List.nil_append, List.length_cons, List.length_nil, Option.map_some, Option.bind_some, Nat.reduceAdd, Nat.zero_add, Nat.add_zero, Nat.add_sub_cancel_left, Int.toNat_natCast, reps, List.all_cons, List.all_nil, C.flat, List.append_eq, Bool.not_true, Bool.and_true, Bool.or_false, Bool.or_self, Bool.not_false, List.append_nil, Bool.and_self, ↓tpG_rk, ↓cnG_rk]) <;> rfl) : RetG σ H h' v K := ret_mk3 hN h hv hk
theorem cH41zbY1 {P : Program} {F : Nat} {args : List T} {H : List Fam} {K : T → List Fam → Prop} {σ : List Sg} {nl : List Fam} {args0 : List T} {h0 : List Fam} {Q : T → List Fam → Prop} {H2 H1 : List Fam} {N n : Nat} (hc : Ctr P F args0 h0 Q) (hk : ∀ v h', Q v h' → capsP h' → RetG σ H2 h' v K) (hap : apart σ = true := by rfl) (hnl : nl.all nilB = true := by rfl) (h1 : H ++ nl = H1 := by first | exact List.append_nil _ | ((try simp only [List.cons_append, List.nil_append]) <;> rfl)) (hN : H1.length = N := by (try simp only [↓List.length_cons, ↓List.length_nil, Nat.reduceAdd]) <;> rfl) (hn : H.length = n := by (try simp only [↓List.length_cons, ↓List.length_nil, Nat.reduceAdd]) <;> rfl) (hH : givesF σ N H1 σ h0 = some H2 := by (try simp (maxSteps := 1000000) only [givesF, setF, updF, Fam.zeroth, Fam.rk, Ck.rk, C.rk, E.rk, T.rk, key, List.map_cons, List.map_nil, List.cons_append, List.nil_append, List.length_cons, List.length_nil, Option.map_some, Option.bind_some, Nat.reduceAdd, Nat.zero_add, Nat.add_zero, Nat.add_sub_cancel_left, Int.toNat_natCast, reps, List.all_cons, List.all_nil, C.flat, List.append_eq, Bool.not_true, Bool.and_true, Bool.or_false, Bool.or_self, Bool.not_false, List.append_nil, Bool.and_self, ↓tpG_rk, ↓cnG_rk]) <;> rfl) (hle : leS n H1 σ N σ h0 (belsK N (h0.map (Fam.rk σ N)) (argsK n args (args0.map (T.rk σ N)) True)) := by repeat' first | refine And.intro ?_ ?_ | exact xeC | fail) : CallK P F args H K := CallK.mk3 hc hap hnl h1 hN hn hH hle hk
set_option maxRecDepth 10000 in
theorem cAll (b : Bg) (X : List Ep) (c : Nat) (hB : BOk b) (hX : es X = b.L) :
    Ctr Tryz.prog 14 [.c (.p 0 0 0)] (bagH b X c)
      fun v h => ∃ c', v = .t [.c (.sl 4 0 3 0 (readB b [] 0 1099511627777).1.length c'), .c (.i .i64 ((readB b [] 0 1099511627777).2 : Nat))] ∧ h = bagH b X c ++ [.one (rcR true (readB b [] 0 1099511627777).1 c')] := by
  refine Ctr.mk' tbv mixed Tryz.func14 rfl rfl rfl (fun _ _ => by kernel_rfl) (by kernel_rfl) (by rfl) (by rfl) (by (repeat' first | refine And.intro ?_ ?_ | exact xeC | fail) <;> exact xmC2) ?_
  repeat' (first | (fail_if_success (with_reducible refine xstp ?_)); first | (with_reducible intro hc; (try simp only [capsP, and_true] at hc); (try exact xfC)) | ((fail_if_success (with_reducible first | refine xgon ?_ | intro _)); (conv => whnf); (fail_if_success (fail_if_success (with_reducible first | refine xstp ?_ | refine xgon ?_ | intro _)))))
  rw [show (ByteArray.mk #[]) = mkS [] from rfl]
  refine cH41zbY1 (σ := [.whole 0, .whole 1, .whole 2, .whole 3]) (nl := []) (cRead b X c [] 0 1099511627777 hB hX) ?_ (hle := by (repeat' first | refine And.intro ?_ ?_ | exact xeC | fail) <;> exact xmC2)
  rintro v h' ⟨c3, rfl, rfl⟩ hcaps
  refine rH41zbY0 ?_
  repeat' (first | (fail_if_success (with_reducible refine xstp ?_)); first | ((fail_if_success (with_reducible first | refine xgon ?_ | intro _)); (conv => whnf); (fail_if_success (fail_if_success (with_reducible first | refine xstp ?_ | refine xgon ?_ | intro _)))))
  refine FinK.mk ⟨[0, 1, 2, 3, 4], _, _, ⟨c3, rfl, rfl⟩, ?_⟩
  (repeat' first | refine And.intro ?_ ?_ | exact xeC | fail)
  all_goals exact xmC2
theorem find_at {α : Type} [Inhabited α] {p : α → Bool} : ∀ {l : List α} {j : Nat}, j < l.length → (∀ k, k < j → p (l.getD k default) = false) → p (l.getD j default) = true → l.find? p = some (l.getD j default)
  | [], _, h, _, _ => absurd h (Nat.not_lt_zero _)
  | a :: l, 0, _, _, hp => List.find?_cons_of_pos hp
  | a :: l, j + 1, h, hn, hp => by
    rw [List.find?_cons_of_neg (by have := hn 0 (by omega); simpa using this)]
    exact find_at (by simpa using h) (fun k hk => hn (k + 1) (by omega)) hp
/-- What is found from entry i on. -/
def nxF (b : Bg) (at' : Int) : Nat → Nat → Option Rc
  | 0, _ => none
  | n + 1, k => if ((b.L.getD k default).la : Int) < at' then nxF b at' n (k + 1) else (chL b k).find? fun r => decide (at' ≤ r.at_)
theorem nxF_of (b : Bg) (at' : Int) : ∀ (M : List En) (k : Nat), b.L.drop k = M → nxF b at' M.length k = (match M.findIdx? fun e => decide (at' ≤ (e.la : Int)) with | none => none | some i => (chL b (k + i)).find? fun r => decide (at' ≤ r.at_))
  | [], k, _ => rfl
  | e :: M, k, h => by
    have hk : k < b.L.length := by
      rcases Nat.lt_or_ge k b.L.length with q | q
      · exact q
      · rw [List.drop_eq_nil_of_le q] at h; cases h
    have he : b.L.getD k default = e := by rw [getD_at hk]; rw [List.drop_eq_getElem_cons hk] at h; exact (List.cons.inj h).1
    have hm : b.L.drop (k + 1) = M := by rw [List.drop_eq_getElem_cons hk] at h; exact (List.cons.inj h).2
    rw [List.length_cons, nxF, he, List.findIdx?_cons]
    by_cases q : (e.la : Int) < at'
    · rw [if_pos q, decide_eq_false (by omega : ¬ at' ≤ (e.la : Int)), nxF_of b at' M (k + 1) hm]
      cases M.findIdx? fun e => decide (at' ≤ (e.la : Int)) with
      | none => rfl
      | some i => simp [show k + 1 + i = k + (i + 1) by omega]
    · rw [if_neg q, decide_eq_true (by omega : at' ≤ (e.la : Int))]
      rfl
theorem nxB_eq (b : Bg) (at' : Int) : nxB b at' = nxF b at' b.L.length 0 := by
  rw [nxF_of b at' b.L 0 rfl]
  unfold nxB
  cases b.L.findIdx? fun e => decide (at' ≤ (e.la : Int)) with
  | none => rfl
  | some i => simp
/-- The last record of a chunk that can be read has the entry's last time. -/
theorem chL_la {b : Bg} {k : Nat} (h : chE b k = 0) : 0 < (chL b k).length ∧ ((chL b k).getD ((chL b k).length - 1) default).at_ = ((b.L.getD k default).la : Int) := by
  obtain ⟨h1, h2⟩ := chE_eq (b := b) (k := k) (xs := (chX b k).1) (xe := (chX b k).2) rfl rfl
  rw [h2, if_pos h]
  rw [h] at h1
  by_cases q : (chX b k).2 ≠ 0
  · rw [if_pos q] at h1; omega
  · rw [if_neg q] at h1
    by_cases g : (0 < (recL (mkS (chX b k).1)).length ∧ ((recL (mkS (chX b k).1)).getD 0 default).at_ = (b.L.getD k default).fi ∧ ((recL (mkS (chX b k).1)).getD ((recL (mkS (chX b k).1)).length - 1) default).at_ = (b.L.getD k default).la ∧ tal (recL (mkS (chX b k).1)) = (b.L.getD k default).T)
    · exact ⟨g.1, g.2.2.1⟩
    · rw [if_neg g] at h1; omega
def optR (o : Option Rc) : T := .t [match o with | none => .a [.i .i64 0, .s (mkS []), .s (mkS [])] | some r => .a (encR r), .c (.b o.isSome)]
set_option maxRecDepth 10000 in
set_option maxHeartbeats 16000000 in
theorem cNext (b : Bg) (X : List Ep) (c : Nat) (at' : Int) (hB : BOk b) (hX : es X = b.L) :
    Ctr Tryz.prog 17 [.c (.p 0 0 0), .c (.i .i64 at')] (bagH b X c)
      fun v h => v = optR (nxB b at') ∧ h = bagH b X c := by
  have hLl : b.L.length = X.length := by rw [← hX]; exact List.length_map _
  have hgk : ∀ i, b.L.getD i default = (X.getD i default).e := fun i => by rw [← hX, getEs]
  have hn := hB.n
  have hlen := hB.len
  refine Ctr.mk' tbv mixed Tryz.func17 rfl rfl rfl (fun _ _ => by kernel_rfl) (by kernel_rfl) (by rfl) (by rfl) (by (repeat' first | refine And.intro ?_ ?_ | exact xeC | fail) <;> exact xmC2) ?_
  repeat' (first | (fail_if_success (with_reducible refine xstp ?_)); first | (with_reducible intro hc; (try simp only [capsP, and_true] at hc); (try exact xfC)) | ((fail_if_success (with_reducible first | refine xgon ?_ | intro _)); (conv => whnf); (fail_if_success (fail_if_success (with_reducible first | refine xstp ?_ | refine xgon ?_ | intro _)))))
  refine LoopK.mk' {i : Nat // i ≤ X.length ∧ nxB b at' = nxF b at' (X.length - i) i}
    (fun ⟨i, _⟩ => ⟨[(0, .c (.p 0 0 0)), (1, .c (.i .i64 at')), (4, .c (.p 4 0 0)), (18, .c (.sl 1 0 5 0 X.length c)), (19, .c (.i .i64 (X.length : Nat))), (20, .c (.i .i64 (i : Nat)))],
      [.one (bgC b 1 X.length c), .one (epR 2 3 X c), .many (tpG X), .many (cnG X), .one (.cells true [.i .i64 0, .s (mkS []), .s (mkS [])])]⟩) (fun p => X.length - p.1)
    ⟨⟨0, Nat.zero_le _, by rw [nxB_eq, hLl]; rfl⟩, [0, 1, 2, 3, 4], ?_⟩ ?_
  · (repeat' first | refine And.intro ?_ ?_ | exact xeC | fail)
    all_goals first
      | exact xmC2
      | skip
  rintro ⟨i, hil, hI⟩
  have e2 : 0 + ((i : Nat) : Int).toNat = i := by omega
  rcases Nat.lt_or_ge i X.length with hlt | hge
  · have hof := offE_le hB (i := i) (by omega)
    rw [show X.length - i = (X.length - (i + 1)) + 1 by omega, nxF, hgk] at hI
    repeat' (first | (fail_if_success (with_reducible refine xstp ?_)); first | ((with_reducible refine And.intro (fun (hb : _ = true) => ?_) (fun (hb : _ = false) => ?_)) <;> replace hb := xnC hb <;> (try first | exact xfC | exact bff hb (by assumption) | exact bff (by assumption) hb)) | ((with_reducible refine And.intro ?_ ?_); focus exact xoC) | (with_reducible intro hc; (try simp only [capsP, and_true] at hc); (try exact xfC)) | ((fail_if_success (with_reducible first | refine xgon ?_ | intro _)); (conv => whnf); (fail_if_success (fail_if_success (with_reducible first | refine xstp ?_ | refine xgon ?_ | intro _)))))
    · rw [if_pos (by assumption)] at hI
      refine ⟨⟨i + 1, hlt, hI⟩, [0, 1, 2, 3, 4], by simp only; omega, ?_⟩
      (repeat' first | refine And.intro ?_ ?_ | exact xeC | fail)
      all_goals exact xmC2
    · rw [if_neg (by omega)] at hI
      rw [e2]
      refine cH41zbY1 (σ := [.whole 0, .whole 1, .whole 2, .whole 3]) (nl := []) (cchunk b X c i hB hX hlt) ?_ (hle := by (repeat' first | refine And.intro ?_ ?_ | exact xeC | fail) <;> exact xmC2)
      rintro v h' ⟨c3, rfl, rfl⟩ hcaps
      refine rH41zbY0 ?_
      repeat' (first | (fail_if_success (with_reducible refine xstp ?_)); first | ((with_reducible refine And.intro (fun (hb : _ = true) => ?_) (fun (hb : _ = false) => ?_)) <;> replace hb := xnC hb <;> (try first | exact xfC | exact bff hb (by assumption) | exact bff (by assumption) hb)) | ((fail_if_success (with_reducible first | refine xgon ?_ | intro _)); (conv => whnf); (fail_if_success (fail_if_success (with_reducible first | refine xstp ?_ | refine xgon ?_ | intro _)))))
      · have hE : chE b i ≠ 0 := by omega
        have hL : chL b i = [] := if_neg hE
        rw [hI, hL]
        refine FinK.mk ⟨[0, 1, 2, 3], _, _, ⟨rfl, rfl⟩, ?_⟩
        (repeat' first | refine And.intro ?_ ?_ | exact xeC | fail)
        all_goals exact xmC2
      have hE : chE b i = 0 := by omega
      have hcL := chL_len b i
      have hla := chL_la hE
      rw [hgk] at hla
      generalize chL b i = L at *
      refine LoopK.mk' {j : Nat // j ≤ L.length ∧ ∀ k, k < j → (L.getD k default).at_ < at'}
        (fun ⟨j, _⟩ => ⟨[(0, .c (.p 0 0 0)), (1, .c (.i .i64 at')), (4, .c (.p 4 0 0)), (18, .c (.sl 1 0 5 0 X.length c)), (19, .c (.i .i64 (X.length : Nat))), (20, .c (.i .i64 (i : Nat))), (38, .c (.sl 5 0 3 0 L.length c3)), (39, .c (.i .i64 (L.length : Nat))), (40, .c (.i .i64 (j : Nat)))],
          [.one (bgC b 1 X.length c), .one (epR 2 3 X c), .many (tpG X), .many (cnG X), .one (.cells true [.i .i64 0, .s (mkS []), .s (mkS [])]), .one (rcR true L c3)]⟩) (fun p => L.length - p.1)
        ⟨⟨0, Nat.zero_le _, fun k hk => absurd hk (Nat.not_lt_zero k)⟩, [0, 1, 2, 3, 4, 6], ?_⟩ ?_
      · (repeat' first | refine And.intro ?_ ?_ | exact xeC | fail)
        all_goals first
          | exact xmC2
          | skip
      rintro ⟨j, hj, hno⟩
      have e3 : 0 + ((j : Nat) : Int).toNat = j := by omega
      rcases Nat.lt_or_ge j L.length with hjl | hjg
      · skip
        repeat' (first | (fail_if_success (with_reducible refine xstp ?_)); first | ((with_reducible refine And.intro (fun (hb : _ = true) => ?_) (fun (hb : _ = false) => ?_)) <;> replace hb := xnC hb <;> (try first | exact xfC | exact bff hb (by assumption) | exact bff (by assumption) hb)) | ((with_reducible refine And.intro ?_ ?_); focus exact xoC) | (with_reducible intro hc; (try simp only [capsP, and_true] at hc); (try exact xfC)) | ((fail_if_success (with_reducible first | refine xgon ?_ | intro _)); (conv => whnf); (fail_if_success (fail_if_success (with_reducible first | refine xstp ?_ | refine xgon ?_ | intro _)))))
        · rw [e3, hI, find_at hjl (fun k hk => decide_eq_false (by have := hno k hk; omega)) (decide_eq_true hb)]
          refine FinK.mk ⟨[0, 1, 2, 3], _, _, ⟨rfl, rfl⟩, ?_⟩
          (repeat' first | refine And.intro ?_ ?_ | exact xeC | fail)
          all_goals exact xmC2
        · refine ⟨⟨j + 1, hjl, fun k hk => ?_⟩, [0, 1, 2, 3, 4, 5], by simp only; omega, ?_⟩
          · rcases Nat.lt_or_ge k j with q | q
            · exact hno k q
            · obtain rfl : k = j := by omega
              exact hb
          · (repeat' first | refine And.intro ?_ ?_ | exact xeC | fail)
            all_goals exact xmC2
      · obtain rfl : j = L.length := by omega
        exfalso
        have := hno (L.length - 1) (by omega)
        omega
  · obtain rfl : i = X.length := by omega
    repeat' (first | (fail_if_success (with_reducible refine xstp ?_)); first | ((with_reducible refine And.intro (fun (hb : _ = true) => ?_) (fun (hb : _ = false) => ?_)) <;> replace hb := xnC hb <;> (try first | exact xfC | exact bff hb (by assumption) | exact bff (by assumption) hb)) | (with_reducible intro hc; (try simp only [capsP, and_true] at hc); (try exact xfC)) | ((fail_if_success (with_reducible first | refine xgon ?_ | intro _)); (conv => whnf); (fail_if_success (fail_if_success (with_reducible first | refine xstp ?_ | refine xgon ?_ | intro _)))))
    rw [hI, Nat.sub_self]
    refine FinK.mk ⟨[0, 1, 2, 3], _, _, ⟨rfl, rfl⟩, ?_⟩
    (repeat' first | refine And.intro ?_ ?_ | exact xeC | fail)
    all_goals exact xmC2
end Go.Proofs.YtkjkbpnhocjenaaGreat


namespace Go.Proofs.YtkjkbpnhocjenaaGreat
open Go.X
open P4
open P5
abbrev rem (s : ByteArray) (a : Nat) : List UInt8 := s.data.toList.drop a
theorem rem_step {s : ByteArray} {a k : Nat} {x r : List UInt8} (h : rem s a = x ++ r) (hk : k = x.length) : rem s (a + k) = r := by
  subst hk
  unfold rem at *
  rw [← List.drop_drop, h, List.drop_append_of_le_length (Nat.le_refl _), List.drop_of_length_le (Nat.le_refl _), List.nil_append]
theorem rdU_fw {s : ByteArray} {a n : Nat} {r : List UInt8} (hn : n < 18446744073709551616) (h : rem s a = venc n ++ r) : ∃ a', rdU s a 0 = (n, a', 0) ∧ rem s a' = r := by
  refine ⟨a + (venc n).length, ?_, rem_step h rfl⟩
  rw [rdU, if_pos rfl]
  unfold rem at h
  rw [h, vdec_enc n r hn]
theorem rdS_fw {s : ByteArray} {a n : Nat} {r : List UInt8} {m : Int} (hn : n < 18446744073709551616) (hm : (n : Int) ≤ m) (h : rem s a = venc n ++ r) : ∃ a', rdS s a 0 m = (n, a', 0) ∧ rem s a' = r := by
  refine ⟨a + (venc n).length, ?_, rem_step h rfl⟩
  rw [rdS_U, rdU, if_pos rfl]
  unfold rem at h
  rw [h, vdec_enc n r hn, if_pos rfl, if_neg (by simp only; omega)]
theorem rdA_fw {s : ByteArray} {a n : Nat} {r : List UInt8} (hn : n ≤ 1099511627776) (h : rem s a = venc n ++ r) : ∃ a', rdAt s a 0 = (n, a', 0) ∧ rem s a' = r := rdS_fw (by omega) (by omega) h
theorem rdT_fw {s : ByteArray} {a : Nat} {x r : List UInt8} {m : Int} (hn : x.length < 18446744073709551616) (hm : (x.length : Int) ≤ m) (h : rem s a = textL x ++ r) : ∃ a', rdT s a 0 m = (x, a', 0) ∧ rem s a' = r := by
  have h1 : rem s a = venc x.length ++ (x ++ r) := by rw [h, textL, List.append_assoc]
  have h2 : rem s (a + (venc x.length).length) = x ++ r := rem_step h1 rfl
  refine ⟨a + (textL x).length, ?_, rem_step h rfl⟩
  have h3 := congrArg List.length h2
  unfold rem at h1 h2 h3
  rw [List.length_drop, size_len, List.length_append] at h3
  rw [rdT_U, rdU, if_pos rfl, h1, vdec_enc _ _ hn, if_pos rfl, if_neg (by simp only; omega), if_neg (by simp only; omega)]
  simp only [h2, List.take_append_of_le_length (Nat.le_refl _), List.take_length, textL, List.length_append, Nat.add_assoc]
theorem endV_fw {s : ByteArray} {a : Nat} (h : rem s a = []) : endV s a 0 = 0 := by
  have h1 := congrArg List.length h
  unfold rem at h1
  rw [List.length_drop, size_len, List.length_nil] at h1
  unfold endV
  rw [if_pos rfl, if_neg (by omega)]
theorem open_seal (b : List UInt8) : openL (sealL b) = (b, 0) := by
  have h : (sealL b).drop 4 = b := by
    unfold sealL
    rw [List.drop_append_of_le_length (by rw [le_length]; exact Nat.le_refl _), List.drop_of_length_le (by rw [le_length]; exact Nat.le_refl _), List.nil_append]
  have h4 : ¬ (sealL b).length < 4 := by
    unfold sealL
    rw [List.length_append, le_length]
    omega
  unfold openL
  rw [if_neg h4, h, if_pos rfl]
theorem venc_pos {n : Nat} (h : n < 18446744073709551616) : 1 ≤ (venc n).length := by
  have h1 := vdec_ok (l := venc n ++ []) (vdec_enc n [] h)
  exact h1.2.2.2.2
theorem rem_mk (l : List UInt8) : rem (mkS l) 0 = l := by unfold rem; rw [List.drop_zero]
theorem rem_len {s : ByteArray} {a : Nat} {l : List UInt8} (h : rem s a = l) : s.size - a = l.length := by
  have h1 := congrArg List.length h
  unfold rem at h1
  rw [List.length_drop, size_len] at h1
  exact h1
/-! ### Records -/
/-- Records that may stand in a chunk behind a time. -/
def Asc : Int → List Rc → Prop
  | _, [] => True
  | la, r :: l => okR r ∧ la ≤ r.at_ ∧ Asc r.at_ l
theorem recB_pos {r : Rc} (h : okR r) : 1 ≤ (recB r).length := by
  have := venc_pos (n := r.at_.toNat) (by have := h.2.1; omega)
  unfold recB
  simp only [List.length_append]
  omega
theorem recP_fw {s : ByteArray} : ∀ (l : List Rc) (a : Nat) (la : Int), Asc la l → a ≤ s.size → rem s a = recsB l → recP s a la = some l
  | [], a, la, _, ha, h => recP_end (by have h1 : s.size - a = 0 := rem_len h; omega)
  | r :: l, a, la, hl, ha, h => by
    obtain ⟨ho, hla, ht⟩ := hl
    have hc : recsB (r :: l) = venc r.at_.toNat ++ (textL r.tp ++ (textL r.pl ++ recsB l)) := by
      simp [recsB, recB]
    have hlen := rem_len h
    have hp := recB_pos ho
    have hl2 : (recsB (r :: l)).length = (recB r).length + (recsB l).length := by simp [recsB]
    have h2 := ho.2.1
    have h3 := ho.2.2
    have h4 := ho.1.1
    obtain ⟨b, e1, h1⟩ := rdA_fw (by omega) (h.trans hc)
    obtain ⟨c, e2, h5⟩ := rdT_fw (m := 40) (by omega) (by omega) h1
    obtain ⟨d, e3, h6⟩ := rdT_fw (m := 4000) (by omega) (by omega) h5
    have e2' : rdTp s a 0 = (r.tp, c, 0) := by unfold rdTp; rw [e1]; exact e2
    have e3' : rdPl s a 0 = (r.pl, d, 0) := by unfold rdPl; rw [e2']; exact e3
    have hn : ((r.at_.toNat : Nat) : Int) = r.at_ := Int.toNat_of_nonneg h2.1
    have hok : okN s a la := by
      refine ⟨by rw [e3'], by rw [e2']; exact ho.1, by rw [e1]; simp only; omega⟩
    have hm := rdPl_mono (s := s) (a := a) (e := 0) ha
    rw [recP_go (by omega) hok]
    rw [e3'] at hm ⊢
    rw [e1]
    simp only at hm ⊢
    rw [hn, recP_fw l d r.at_ ht hm.2.1 h6]
    unfold rdRec
    rw [e1, e2', e3']
    simp only [hn, Option.map_some]
theorem recL_fw {l : List Rc} (h : Asc 0 l) : recL (mkS (conB l)) = l := by
  obtain ⟨a, e1, h1⟩ := rdU_fw (n := 1) (by decide) (rem_mk (conB l))
  have hle := (rdU_le (s := mkS (conB l)) (a := 0) (e := 0) (Nat.zero_le _)).1
  rw [e1] at hle
  unfold recL
  rw [e1, if_pos ⟨rfl, rfl⟩, recP_fw l a 0 h hle h1]
  rfl
theorem exaL_fw {c : List UInt8} (h : c.length ≤ 1000000000) : exaL (textL (sealL c)) = (c, 0) := by
  have hs := sealL_len c
  have ht : (sealL c).length ≤ (textL (sealL c)).length := by unfold textL; rw [List.length_append]; omega
  obtain ⟨a, e1, h1⟩ := rdT_fw (m := ((textL (sealL c)).length : Nat)) (x := sealL c) (r := []) (by omega) (by omega) (by rw [rem_mk, List.append_nil])
  unfold exaL
  rw [e1]
  simp only
  rw [endV_fw h1, if_pos rfl, open_seal]
/-! ### Entries -/
def entO (off : Nat) (x : List Rc) : En := ⟨off, (x.getD 0 default).at_.toNat, (x.getD (x.length - 1) default).at_.toNat, tal x⟩
def entsO : Nat → List (List Rc) → List En
  | _, [] => []
  | off, x :: L => entO off x :: entsO (off + (secB x).length) L
theorem entsO_len : ∀ (L : List (List Rc)) (off : Nat), (entsO off L).length = L.length
  | [], _ => rfl
  | _ :: L, off => by rw [entsO, List.length_cons, List.length_cons, entsO_len L]
theorem entsO_at : ∀ (L : List (List Rc)) (off k : Nat), k < L.length → (entsO off L).getD k default = entO (off + (secsB (L.take k)).length) (L.getD k default)
  | [], _, k, h => absurd h (Nat.not_lt_zero k)
  | x :: L, off, 0, _ => by simp [entsO, secsB]
  | x :: L, off, k + 1, h => by
    have := entsO_at L (off + (secB x).length) k (by simpa using h)
    rw [entsO, List.getD_cons_succ, this, List.take_succ_cons, List.getD_cons_succ]
    congr 1
    simp only [secsB, List.flatMap_cons, List.length_append]
    omega
theorem tlN_fw {s : ByteArray} : ∀ (U : List Tl) (a : Nat) (r : List UInt8), (∀ t ∈ U, t.1.length ≤ 40 ∧ t.2 ≤ 1099511627776) → rem s a = tlB U ++ r → ∃ a', tlN s U.length a 0 = (U, a', 0) ∧ rem s a' = r
  | [], a, r, _, h => ⟨a, rfl, by simpa [tlB] using h⟩
  | t :: U, a, r, hU, h => by
    have ht := hU t (List.mem_cons_self ..)
    have hc : tlB (t :: U) ++ r = textL t.1 ++ (venc t.2 ++ (tlB U ++ r)) := by simp [tlB]
    obtain ⟨b, e1, h1⟩ := rdT_fw (m := 40) (by omega) (by omega) (h.trans hc)
    obtain ⟨c, e2, h2⟩ := rdA_fw (by omega) h1
    obtain ⟨d, e3, h3⟩ := tlN_fw U c r (fun x hx => hU x (List.mem_cons_of_mem _ hx)) h2
    refine ⟨d, ?_, h3⟩
    rw [List.length_cons, tlN, if_pos rfl, e1]
    simp only
    rw [e2]
    simp only
    rw [e3]
/-- A chunk of some records that may be written. -/
def okX (x : List Rc) : Prop := 0 < x.length ∧ x.length ≤ 50000 ∧ ∀ q ∈ x, okR q
theorem okX_at {x : List Rc} (h : okX x) {k : Nat} (hk : k < x.length) : okR (x.getD k default) := h.2.2 _ (by rw [getD_at hk]; exact List.getElem_mem _)
theorem tal_ok {x : List Rc} (h : okX x) : ∀ t ∈ tal x, t.1.length ≤ 40 ∧ t.2 ≤ 1099511627776 := fun t ht => by
  obtain ⟨r, hr, e⟩ := List.mem_map.1 (((tal_inv x).2.1 t.1).1 (List.mem_map.2 ⟨t, ht, rfl⟩))
  have h1 := (h.2.2 r hr).1.1.2
  have h2 := tal_cnt ht
  have h3 := h.2.1
  exact ⟨by rw [← e]; exact h1, by omega⟩
theorem enN_fw {s : ByteArray} : ∀ (L : List (List Rc)) (off a : Nat) (r : List UInt8), (∀ x ∈ L, okX x) → off + (secsB L).length ≤ 1099511627776 → rem s a = idxB off L ++ r → ∃ a', enN s L.length a 0 = (entsO off L, a', 0) ∧ rem s a' = r
  | [], off, a, r, _, _, h => ⟨a, rfl, by simpa [idxB] using h⟩
  | x :: L, off, a, r, hL, ho, h => by
    have hx := hL x (List.mem_cons_self ..)
    have hx0 := hx.1
    have h0 := (okX_at hx hx0).2.1
    have hl := (okX_at hx (k := x.length - 1) (by omega)).2.1
    have hso : (secsB (x :: L)).length = (secB x).length + (secsB L).length := by simp [secsB]
    have hT := tal_le x
    have hxl := hx.2.1
    have hc : idxB off (x :: L) ++ r = venc off ++ (venc (x.getD 0 default).at_.toNat ++ (venc (x.getD (x.length - 1) default).at_.toNat ++ (venc (tal x).length ++ (tlB (tal x) ++ (idxB (off + (secB x).length) L ++ r))))) := by
      simp only [idxB, idxE, desB, List.append_assoc]
    obtain ⟨a1, e1, h1⟩ := rdA_fw (by omega) (h.trans hc)
    obtain ⟨a2, e2, h2⟩ := rdA_fw (by omega) h1
    obtain ⟨a3, e3, h3⟩ := rdA_fw (by omega) h2
    obtain ⟨a4, e4, h4⟩ := rdA_fw (by omega) h3
    obtain ⟨a5, e5, h5⟩ := tlN_fw (tal x) a4 _ (tal_ok hx) h4
    obtain ⟨a6, e6, h6⟩ := enN_fw L (off + (secB x).length) a5 r (fun y hy => hL y (List.mem_cons_of_mem _ hy)) (by omega) h5
    have g1 : sm1 s a 0 = (off, a1, 0) := e1
    have g2 : sm2 s a 0 = ((x.getD 0 default).at_.toNat, a2, 0) := by unfold sm2; rw [g1]; exact e2
    have g3 : sm3 s a 0 = ((x.getD (x.length - 1) default).at_.toNat, a3, 0) := by unfold sm3; rw [g2]; exact e3
    have g4 : sm4 s a 0 = ((tal x).length, a4, 0) := by unfold sm4; rw [g3]; exact e4
    have g5 : enT s a 0 = (tal x, a5, 0) := by unfold enT; rw [g4]; exact e5
    refine ⟨a6, ?_, h6⟩
    rw [List.length_cons, enN, if_pos rfl, g5]
    simp only
    rw [e6]
    simp only [rdEn, g1, g2, g3, g5, entsO, entO]
theorem ixL_fw {L : List (List Rc)} (hL : ∀ x ∈ L, okX x) (hn : L.length ≤ 10000) (ho : 5 + (secsB L).length ≤ 1099511627776) : ixL (mkS (indB L)) = (entsO 5 L, true) := by
  have hc : rem (mkS (indB L)) 0 = venc 2 ++ (venc L.length ++ (idxB 5 L ++ [])) := by rw [rem_mk, indB]; simp only [List.append_assoc, List.append_nil]
  obtain ⟨a1, e1, h1⟩ := rdU_fw (n := 2) (by decide) hc
  obtain ⟨a2, e2, h2⟩ := rdA_fw (by omega) h1
  obtain ⟨a3, e3, h3⟩ := enN_fw L 5 a2 [] hL ho h2
  unfold ixL
  rw [e1]
  simp only
  rw [e2]
  simp only
  rw [e3]
  simp only
  rw [endV_fw h3]
  simp
end Go.Proofs.YtkjkbpnhocjenaaGreat


namespace Go.Proofs.YtkjkbpnhocjenaaGreat
open Go.X
open P4
open P5
/-- Chunks of a recording of at most 50 records. -/
structure LOk (L : List (List Rc)) : Prop where
  ch : ∀ x ∈ L, 0 < x.length
  ok : ∀ r ∈ L.flatten, okR r
  pw : L.flatten.Pairwise fun a b => a.at_ ≤ b.at_
  n : L.flatten.length ≤ 50
theorem mem_getD {α : Type} [Inhabited α] {l : List α} {k : Nat} (h : k < l.length) : l.getD k default ∈ l := by rw [getD_at h]; exact List.getElem_mem _
theorem asc_of : ∀ {l : List Rc} {la : Int}, (∀ r ∈ l, okR r ∧ la ≤ r.at_) → (l.Pairwise fun a b => a.at_ ≤ b.at_) → Asc la l
  | [], _, _, _ => trivial
  | r :: l, la, h, hp => by
    have h1 := h r (List.mem_cons_self ..)
    have h2 := List.pairwise_cons.1 hp
    exact ⟨h1.1, h1.2, asc_of (fun q hq => ⟨(h q (List.mem_cons_of_mem _ hq)).1, h2.1 q hq⟩) h2.2⟩
theorem LOk.sub {L : List (List Rc)} {x : List Rc} (hx : x ∈ L) : x.Sublist L.flatten := List.sublist_flatten_of_mem hx
theorem LOk.okX {L : List (List Rc)} (h : LOk L) : ∀ x ∈ L, okX x := fun x hx => by
  have h1 := (LOk.sub hx).length_le
  have h2 := h.n
  exact ⟨h.ch x hx, by omega, fun q hq => h.ok q ((LOk.sub hx).subset hq)⟩
theorem LOk.asc {L : List (List Rc)} (h : LOk L) {x : List Rc} (hx : x ∈ L) : Asc 0 x :=
  asc_of (fun r hr => ⟨(h.okX x hx).2.2 r hr, ((h.okX x hx).2.2 r hr).2.1.1⟩) (h.pw.sublist (LOk.sub hx))
theorem len_flat : ∀ {L : List (List Rc)}, (∀ x ∈ L, 0 < x.length) → L.length ≤ L.flatten.length
  | [], _ => Nat.zero_le _
  | x :: L, h => by
    have h1 := len_flat fun y hy => h y (List.mem_cons_of_mem _ hy)
    have h2 := h x (List.mem_cons_self ..)
    rw [List.flatten_cons, List.length_append, List.length_cons]
    omega
theorem LOk.len {L : List (List Rc)} (h : LOk L) : L.length ≤ 50 := Nat.le_trans (len_flat h.ch) h.n
theorem secB_pos (x : List Rc) : 1 ≤ (secB x).length := by
  have := sealL_len (conB x)
  unfold secB textL
  rw [List.length_append]
  omega
theorem secsB_le : ∀ {L : List (List Rc)}, (∀ r ∈ L.flatten, okR r) → (secsB L).length ≤ 24 * L.length + 4070 * L.flatten.length
  | [], _ => by simp [secsB]
  | x :: L, h => by
    have h1 := secsB_le (L := L) fun r hr => h r (by rw [List.flatten_cons, List.mem_append]; exact .inr hr)
    have h2 := secB_len (l := x) fun r hr => h r (by rw [List.flatten_cons, List.mem_append]; exact .inl hr)
    have h3 : (secsB (x :: L)).length = (secB x).length + (secsB L).length := by simp [secsB]
    rw [h3, List.flatten_cons, List.length_append, List.length_cons]
    omega
theorem LOk.secs {L : List (List Rc)} (h : LOk L) : (secsB L).length ≤ 204700 := by
  have h1 := secsB_le h.ok
  have h2 := h.len
  have h3 := h.n
  omega
theorem secsB_take {L : List (List Rc)} {k : Nat} (h : k < L.length) : secsB (L.take (k + 1)) = secsB (L.take k) ++ secB (L.getD k default) := by
  rw [take_snocG L h, secsB_snoc]
theorem secsB_app (L M : List (List Rc)) : secsB (L ++ M) = secsB L ++ secsB M := by simp [secsB]
theorem secsB_tl (L : List (List Rc)) (k : Nat) : secsB L = secsB (L.take k) ++ secsB (L.drop k) := by rw [← secsB_app, List.take_append_drop]
theorem le8_le : ∀ k n, le8 (le k n) = n % 256 ^ k
  | 0, n => by simp [le, le8, Nat.mod_one]
  | k + 1, n => by
    rw [le, le8_cons, le8_le k, Nat.pow_succ', Nat.mod_mul, UInt8.toNat_ofNat']
    omega
/-- The bag of some chunks. -/
def bgL (L : List (List Rc)) : Bg := ⟨bagB L, 5 + (secsB L).length, entsO 5 L⟩
theorem bagB_len (L : List (List Rc)) : (bagB L).length = 5 + (secsB L).length + (textL (sealL (indB L))).length + 13 := by
  simp only [bagB, magic, List.length_append, le_length, List.length_cons, List.length_nil]
theorem bgA_bag {L : List (List Rc)} (h : (secsB L).length ≤ 1000000000) : bgA (bagB L) = 5 + (secsB L).length := by
  have hl := bagB_len L
  have h1 : (bagB L).drop ((bagB L).length - 13) = le 8 (5 + (secsB L).length) ++ magic := by
    have e : bagB L = (magic ++ secsB L ++ textL (sealL (indB L))) ++ (le 8 (5 + (secsB L).length) ++ magic) := by simp only [bagB, List.append_assoc]
    conv => lhs; arg 2; rw [e]
    exact List.drop_left' (by rw [hl]; simp only [magic, List.length_append, List.length_cons, List.length_nil]; omega)
  unfold bgA
  rw [h1, List.take_left' (le_length 8 _), le8_le]
  omega
theorem bgX_bag {L : List (List Rc)} (h : (secsB L).length ≤ 1000000000) (hi : (indB L).length ≤ 1000000000) : bgX (bagB L) = (indB L, 0) := by
  have hl := bagB_len L
  have e : bagB L = (magic ++ secsB L ++ textL (sealL (indB L))) ++ (le 8 (5 + (secsB L).length) ++ magic) := by simp only [bagB, List.append_assoc]
  have h1 : (bagB L).take ((bagB L).length - 13) = magic ++ secsB L ++ textL (sealL (indB L)) := by
    conv => lhs; arg 2; rw [e]
    exact List.take_left' (by rw [hl]; simp only [magic, List.length_append, List.length_cons, List.length_nil]; omega)
  unfold bgX
  rw [h1, bgA_bag h, List.drop_left' (by simp only [magic, List.length_append, List.length_cons, List.length_nil]), exaL_fw hi]
theorem tal_okTs {x : List Rc} (h : okX x) : okTs (tal x) ∧ 1 ≤ (tal x).length := by
  obtain ⟨h1, h2, h3⟩ := tal_inv x
  have hm : (x.getD 0 default).tp ∈ (tal x).map Prod.fst := (h2 _).2 (List.mem_map.2 ⟨_, by rw [getD_at h.1]; exact List.getElem_mem _, rfl⟩)
  refine ⟨fun i hi => ⟨?_, fun h0 => ?_, ?_⟩, by have := List.length_pos_of_mem hm; rw [List.length_map] at this; omega⟩
  · have ht : (tal x).getD i default ∈ tal x := by rw [getD_at hi]; exact List.getElem_mem _
    obtain ⟨r, hr, e⟩ := List.mem_map.1 ((h2 _).1 (List.mem_map.2 ⟨_, ht, rfl⟩))
    rw [← e]
    exact (h.2.2 r hr).1
  · unfold SrtT at h1
    rw [List.pairwise_map, List.pairwise_iff_getElem] at h1
    have := h1 (i - 1) i (by omega) hi (by omega)
    rw [getD_at (show i - 1 < (tal x).length by omega), getD_at hi]
    exact this
  · exact tal_one _ (by rw [getD_at hi]; exact List.getElem_mem _)
theorem LOk.le {L : List (List Rc)} (h : LOk L) {i j : Nat} (hij : i < j) (hj : j < L.length) {x y : Rc} (hx : x ∈ L.getD i default) (hy : y ∈ L.getD j default) : x.at_ ≤ y.at_ := by
  have h1 := (List.pairwise_flatten.1 h.pw).2
  rw [List.pairwise_iff_getElem] at h1
  have := h1 i j (by omega) hj hij
  rw [getD_at (by omega)] at hx
  rw [getD_at hj] at hy
  exact this x hx y hy
theorem LOk.at {L : List (List Rc)} (h : LOk L) {i : Nat} (hi : i < L.length) : Go.Proofs.YtkjkbpnhocjenaaGreat.okX (L.getD i default) ∧ (∀ a b, a ≤ b → b < (L.getD i default).length → ((L.getD i default).getD a default).at_ ≤ ((L.getD i default).getD b default).at_) ∧ Asc 0 (L.getD i default) := by
  have hm : L.getD i default ∈ L := by rw [getD_at hi]; exact List.getElem_mem _
  refine ⟨h.okX _ hm, fun a b hab hb => ?_, h.asc hm⟩
  have hp := h.pw.sublist (LOk.sub hm)
  rw [List.pairwise_iff_getElem] at hp
  rcases Nat.lt_or_ge a b with q | q
  · rw [getD_at (by omega), getD_at hb]
    exact hp a b (by omega) hb q
  · obtain rfl : a = b := by omega
    exact Int.le_refl _
theorem LOk.ord {L : List (List Rc)} (h : LOk L) : ordE (entsO 5 L) (5 + (secsB L).length) := by
  have hel := entsO_len L 5
  refine ⟨fun h0 => ?_, fun i hi => ?_⟩
  · rw [hel] at h0
    have : L = [] := List.length_eq_zero_iff.1 h0
    subst this
    simp [secsB]
  · rw [hel] at hi
    obtain ⟨hx, hasc, _⟩ := h.at hi
    have hT := tal_okTs hx
    have hx0 := hx.1
    have n0 := (okX_at hx hx0).2.1.1
    have nl := (okX_at hx (k := (L.getD i default).length - 1) (by omega)).2.1.1
    have hfl := hasc 0 ((L.getD i default).length - 1) (by omega) (by omega)
    have hs1 := congrArg List.length (secsB_tl L (i + 1))
    rw [secsB_take hi, List.length_append, List.length_append] at hs1
    have hp := secB_pos (L.getD i default)
    have hprev : 0 < i → (secsB (L.take (i - 1))).length < (secsB (L.take i)).length := fun h0 => by
      have := congrArg List.length (secsB_take (L := L) (k := i - 1) (by omega))
      rw [show i - 1 + 1 = i by omega, List.length_append] at this
      have := secB_pos (L.getD (i - 1) default)
      omega
    have hpl : 0 < i → ((L.getD (i - 1) default).getD ((L.getD (i - 1) default).length - 1) default).at_ ≤ ((L.getD i default).getD 0 default).at_ := fun h0 => by
      have hy := (h.at (i := i - 1) (by omega)).1.1
      exact h.le (i := i - 1) (j := i) (by omega) hi (mem_getD (by omega)) (mem_getD hx0)
    unfold okE1
    rw [entsO_at L 5 i hi]
    refine ⟨⟨fun h0 => ?_, fun h0 => ?_, ?_⟩, ⟨fun h0 => ?_, ?_, hT.2⟩, hT.1⟩
    · subst h0
      simp [entO, secsB]
    · rw [entsO_at L 5 (i - 1) (by omega)]
      simp only [entO]
      have := hprev h0
      omega
    · simp only [entO]
      omega
    · rw [entsO_at L 5 (i - 1) (by omega)]
      simp only [entO]
      have := hpl h0
      omega
    · simp only [entO]
      omega
theorem LOk.ind {L : List (List Rc)} (h : LOk L) : (indB L).length ≤ 1000000000 := by
  have h1 := inB_len (n := L.length) (L := L) fun x hx => (h.okX x hx).2
  have h2 := h.len
  have h3 : inB L.length L = indB L := rfl
  rw [h3] at h1
  omega
theorem bag_open {L : List (List Rc)} (h : LOk L) : bgE (bagB L) = 0 ∧ bgO (bagB L) = bgL L := by
  have hs := h.secs
  have hl := bagB_len L
  have hA := bgA_bag (L := L) (by omega)
  have hX := bgX_bag (L := L) (by omega) h.ind
  have hI := ixL_fw h.okX (by have := h.len; omega) (by omega)
  have h5 : (bagB L).take 5 = magic := by
    have e : bagB L = magic ++ (secsB L ++ (textL (sealL (indB L)) ++ (le 8 (5 + (secsB L).length) ++ magic))) := by simp only [bagB, List.append_assoc]
    rw [e]
    exact List.take_left' rfl
  have h6 : (bagB L).drop ((bagB L).length - 5) = magic := by
    have e : bagB L = (magic ++ secsB L ++ textL (sealL (indB L)) ++ le 8 (5 + (secsB L).length)) ++ magic := rfl
    conv => lhs; arg 2; rw [e]
    exact List.drop_left' (by rw [hl]; simp only [magic, List.length_append, List.length_cons, List.length_nil, le_length]; omega)
  refine ⟨?_, ?_⟩
  · unfold bgE
    rw [if_neg (by omega), if_neg (fun q => q ⟨h5, h6, by omega, by omega⟩), hX, if_neg (fun q => q rfl), hI, hA, if_pos ⟨rfl, h.ord⟩]
  · unfold bgO bgL
    rw [hA, hX, hI]
theorem endE_bag {L : List (List Rc)} {k : Nat} (hk : k < L.length) : endE (bgL L) k = 5 + (secsB (L.take (k + 1))).length := by
  have hel := entsO_len L 5
  unfold endE
  have e : (bgL L).L = entsO 5 L := rfl
  have e2 : (bgL L).ix = 5 + (secsB L).length := rfl
  rw [e, hel, e2]
  split
  · rename_i h1
    rw [entsO_at L 5 (k + 1) h1]
    rfl
  · rw [show k + 1 = L.length by omega, List.take_length]
theorem chX_bag {L : List (List Rc)} (h : LOk L) {k : Nat} (hk : k < L.length) : chX (bgL L) k = (conB (L.getD k default), 0) := by
  have hE := endE_bag hk
  have hx := (h.at hk).1
  have hcl := conB_len hx.2.2
  have hxl := hx.2.1
  have hst := secsB_take hk
  have e0 : (bgL L).s = bagB L := rfl
  have e1 : (bgL L).L.getD k default = entO (5 + (secsB (L.take k)).length) (L.getD k default) := entsO_at L 5 k hk
  have e : bagB L = (magic ++ secsB (L.take (k + 1))) ++ (secsB (L.drop (k + 1)) ++ (textL (sealL (indB L)) ++ (le 8 (5 + (secsB L).length) ++ magic))) := by
    unfold bagB
    conv => lhs; rw [show magic ++ secsB L = magic ++ secsB (L.take (k + 1)) ++ secsB (L.drop (k + 1)) by rw [List.append_assoc, ← secsB_tl]]
    simp only [List.append_assoc]
  unfold chX
  rw [hE, e0, e1]
  have ht : (bagB L).take (5 + (secsB (L.take (k + 1))).length) = magic ++ secsB (L.take (k + 1)) := by
    conv => lhs; arg 2; rw [e]
    exact List.take_left' (by simp only [magic, List.length_append, List.length_cons, List.length_nil])
  rw [ht, hst, ← List.append_assoc]
  have hd : (magic ++ secsB (L.take k) ++ secB (L.getD k default)).drop (entO (5 + (secsB (L.take k)).length) (L.getD k default)).off = secB (L.getD k default) := List.drop_left' (by simp only [entO, magic, List.length_append, List.length_cons, List.length_nil])
  rw [hd]
  exact exaL_fw (by omega)
theorem ch_bag {L : List (List Rc)} (h : LOk L) {k : Nat} (hk : k < L.length) : chE (bgL L) k = 0 ∧ chL (bgL L) k = L.getD k default := by
  obtain ⟨hx, _, ha⟩ := h.at hk
  have hx0 := hx.1
  have n0 := (okX_at hx hx0).2.1.1
  have nl := (okX_at hx (k := (L.getD k default).length - 1) (by omega)).2.1.1
  obtain ⟨h1, h2⟩ := chE_eq (chX_bag h hk) (recL_fw ha)
  have e1 : (bgL L).L.getD k default = entO (5 + (secsB (L.take k)).length) (L.getD k default) := entsO_at L 5 k hk
  have h3 : chE (bgL L) k = 0 := by
    rw [h1, e1, if_neg (fun q => q rfl), if_pos]
    exact ⟨hx0, (Int.toNat_of_nonneg n0).symm, (Int.toNat_of_nonneg nl).symm, rfl⟩
  exact ⟨h3, by rw [h2, if_pos h3]⟩
end Go.Proofs.YtkjkbpnhocjenaaGreat


namespace Go.Proofs.YtkjkbpnhocjenaaGreat
open Go.X
open P4
open P5
theorem drop_flat {L : List (List Rc)} {k : Nat} (h : k < L.length) : (L.drop k).flatten = L.getD k default ++ (L.drop (k + 1)).flatten := by
  rw [drop_consG L h, List.flatten_cons]
theorem fi_le {L : List (List Rc)} (h : LOk L) {k : Nat} (hk : k < L.length) {r : Rc} (hr : r ∈ L.getD k default) :
    (((L.getD k default).getD 0 default).at_.toNat : Int) ≤ r.at_ ∧ r.at_ ≤ (((L.getD k default).getD ((L.getD k default).length - 1) default).at_.toNat : Int) := by
  obtain ⟨hx, ha, _⟩ := h.at hk
  obtain ⟨i, hi, e⟩ := List.mem_iff_getElem.1 hr
  have h1 := ha 0 i (by omega) hi
  have h2 := ha i ((L.getD k default).length - 1) (by omega) (by omega)
  have n0 := (okX_at hx hx.1).2.1.1
  rw [getD_at hi, e] at h1 h2
  omega
theorem skip_bag {L : List (List Rc)} (h : LOk L) {k : Nat} (hk : k < L.length) {t : List UInt8} {fr un : Int} (hs : skipE ((bgL L).L.getD k default) t fr un) : selR t fr un (L.getD k default) = [] := by
  rw [show (bgL L).L.getD k default = entO (5 + (secsB (L.take k)).length) (L.getD k default) from entsO_at L 5 k hk] at hs
  unfold selR
  rw [List.filter_eq_nil_iff]
  intro r hr hq
  have hq := of_decide_eq_true hq
  have hf := fi_le h hk hr
  rcases hs with q | q | q
  · refine q (hq.1.imp id fun e => ?_)
    exact ((tal_inv _).2.1 t).2 (List.mem_map.2 ⟨r, hr, e⟩)
  · simp only [entO] at q
    omega
  · simp only [entO] at q
    omega
theorem selR_app (t : List UInt8) (fr un : Int) (l m : List Rc) : selR t fr un (l ++ m) = selR t fr un l ++ selR t fr un m := List.filter_append ..
theorem rdB_bag {L : List (List Rc)} (h : LOk L) (t : List UInt8) (fr un : Int) : ∀ n k, k + n = L.length → rdB (bgL L) t fr un n k = (selR t fr un (L.drop k).flatten, 0)
  | 0, k, hk => by rw [List.drop_of_length_le (by omega)]; rfl
  | n + 1, k, hk => by
    have ih := rdB_bag h t fr un n (k + 1) (by omega)
    obtain ⟨h1, h2⟩ := ch_bag h (k := k) (by omega)
    rw [drop_flat (by omega), selR_app]
    unfold rdB
    by_cases hs : skipE ((bgL L).L.getD k default) t fr un
    · rw [if_pos hs, ih, skip_bag h (by omega) hs, List.nil_append]
    · rw [if_neg hs, if_neg (fun q => q h1), ih, if_pos rfl, h2]
theorem read_bag {L : List (List Rc)} (h : LOk L) (t : List UInt8) (fr un : Int) : readB (bgL L) t fr un = (selR t fr un L.flatten, 0) := by
  unfold readB
  rw [rdB_bag h t fr un _ 0 (by rw [Nat.zero_add]; exact entsO_len L 5), List.drop_zero]
theorem nxF_step {b : Bg} {a z : Int} {n k : Nat} (h : ((b.L.getD k default).la : Int) = z) : nxF b a (n + 1) k = if z < a then nxF b a n (k + 1) else (chL b k).find? fun r => decide (a ≤ r.at_) := by
  subst h
  rfl
theorem nxF_bag {L : List (List Rc)} (h : LOk L) (a : Int) : ∀ n k, k + n = L.length → nxF (bgL L) a n k = (L.drop k).flatten.find? fun r => decide (a ≤ r.at_)
  | 0, k, hk => by rw [List.drop_of_length_le (by omega)]; rfl
  | n + 1, k, hk => by
    have hkl : k < L.length := by omega
    have ih := nxF_bag h a n (k + 1) (by omega)
    obtain ⟨h1, h2⟩ := ch_bag h hkl
    obtain ⟨hx, _, _⟩ := h.at hkl
    have hx0 := hx.1
    rw [drop_flat hkl, List.find?_append]
    have hz : (((bgL L).L.getD k default).la : Int) = ((((L.getD k default).getD ((L.getD k default).length - 1) default).at_.toNat : Nat) : Int) := by
      rw [show (bgL L).L.getD k default = entO (5 + (secsB (L.take k)).length) (L.getD k default) from entsO_at L 5 k hkl]
      rfl
    rw [nxF_step hz, h2]
    by_cases hs : ((((L.getD k default).getD ((L.getD k default).length - 1) default).at_.toNat : Nat) : Int) < a
    · rw [if_pos hs, ih, (List.find?_eq_none (l := L.getD k default)).2]
      · rfl
      · intro r hr hq
        have hq := of_decide_eq_true hq
        have := (fi_le h hkl hr).2
        omega
    · rw [if_neg hs]
      have nl := (okX_at hx (k := (L.getD k default).length - 1) (by omega)).2.1.1
      cases hf : (L.getD k default).find? fun r => decide (a ≤ r.at_) with
      | some r => rfl
      | none =>
        have := List.find?_eq_none.1 hf _ (mem_getD (show (L.getD k default).length - 1 < _ by omega))
        exact absurd (decide_eq_true (by omega)) this
theorem next_bag {L : List (List Rc)} (h : LOk L) (a : Int) : nxB (bgL L) a = L.flatten.find? fun r => decide (a ≤ r.at_) := by
  rw [nxB_eq, nxF_bag h a _ 0 (by rw [Nat.zero_add]; exact entsO_len L 5), List.drop_zero]
/-- How many records there are of a topic; of all, for the empty one. -/
def cntQ (l : List Rc) (t : List UInt8) : Nat := (l.filter fun r => decide (t = [] ∨ r.tp = t)).length
theorem cntQ_app (l m : List Rc) (t : List UInt8) : cntQ (l ++ m) t = cntQ l t + cntQ m t := by simp [cntQ]
theorem flen1 (p : Rc → Bool) (r : Rc) : ([r].filter p).length = if p r = true then 1 else 0 := by
  rw [List.filter_cons]
  split <;> rfl
theorem cntF_tal (x : List Rc) (t : List UInt8) : cntF (tal x) t = cntQ x t := by
  suffices ∀ k, k ≤ x.length → cntF (tal (x.take k)) t = cntQ (x.take k) t by
    have := this x.length (Nat.le_refl _)
    rwa [List.take_length] at this
  intro k
  induction k with
  | zero => intro _; simp [tal, cntF, cntQ]
  | succ k ih =>
    intro hk
    rw [take_snocG x (by omega), tal_snoc, cntF_talA, ih (by omega), cntQ_app]
    congr 1
    unfold cntQ
    rw [flen1]
    by_cases q : t = [] ∨ (x.getD k default).tp = t
    · rw [if_pos q, if_pos (decide_eq_true q)]
    · rw [if_neg q, if_neg (fun e => q (of_decide_eq_true e))]
theorem flat_ents : ∀ (L : List (List Rc)) (off : Nat), (entsO off L).flatMap En.T = L.flatMap tal
  | [], _ => rfl
  | x :: L, off => by rw [entsO, List.flatMap_cons, List.flatMap_cons, flat_ents L]; rfl
theorem cnt_bag (L : List (List Rc)) (t : List UInt8) : cntF (flatT (bgL L)) t = cntQ L.flatten t := by
  have h0 : flatT (bgL L) = L.flatMap tal := flat_ents L 5
  rw [h0]
  clear h0
  induction L with
  | nil => rfl
  | cons x L ih => rw [List.flatMap_cons, cntF_app, ih, cntF_tal, List.flatten_cons, cntQ_app]
theorem top_bag (L : List (List Rc)) : (topB (bgL L)).Pairwise (· < ·) ∧ ∀ t, t ∈ topB (bgL L) ↔ t ∈ L.flatten.map Rc.tp := by
  have h := foldT_inv (flatT (bgL L))
  refine ⟨h.1, fun t => (h.2 t).trans ?_⟩
  have h0 : flatT (bgL L) = L.flatMap tal := flat_ents L 5
  rw [h0]
  simp only [List.map_flatMap, List.mem_flatMap, List.map_flatten, List.mem_flatten, List.mem_map]
  constructor
  · rintro ⟨x, hx, ht⟩
    obtain ⟨r, hr, e⟩ := List.mem_map.1 (((tal_inv x).2.1 t).1 (by simpa using ht))
    exact ⟨x.map Rc.tp, ⟨x, hx, rfl⟩, List.mem_map.2 ⟨r, hr, e⟩⟩
  · rintro ⟨y, ⟨x, hx, rfl⟩, ht⟩
    refine ⟨x, hx, ?_⟩
    have := ((tal_inv x).2.1 t).2 ht
    simpa using this
theorem flat_first : ∀ {L : List (List Rc)}, (∀ x ∈ L, 0 < x.length) → L.flatten.getD 0 default = (L.getD 0 default).getD 0 default
  | [], _ => rfl
  | x :: L, h => by
    have hx := h x (List.mem_cons_self ..)
    rw [List.flatten_cons]
    simp only [List.getD]
    rw [List.getElem?_append_left hx]
    rfl
theorem flat_last {L : List (List Rc)} (h : ∀ x ∈ L, 0 < x.length) (hL : 0 < L.length) : 0 < L.flatten.length ∧ L.flatten.getD (L.flatten.length - 1) default = (L.getD (L.length - 1) default).getD ((L.getD (L.length - 1) default).length - 1) default := by
  have h1 := take_snocG L (k := L.length - 1) (by omega)
  rw [show L.length - 1 + 1 = L.length by omega, List.take_length] at h1
  have hx := h _ (mem_getD (show L.length - 1 < L.length by omega))
  generalize L.getD (L.length - 1) default = x at *
  generalize L.take (L.length - 1) = M at *
  have hf : L.flatten = M.flatten ++ x := by rw [h1, List.flatten_append]; simp
  rw [hf, List.length_append]
  refine ⟨by omega, ?_⟩
  simp only [List.getD]
  rw [List.getElem?_append_right (by omega)]
  congr 2
  omega
/-- First and last time of some records. -/
def spnL (l : List Rc) : T := if l.length = 0 then .t [.c (.i .i64 0), .c (.i .i64 0), .c .ff] else .t [.c (.i .i64 (l.getD 0 default).at_), .c (.i .i64 (l.getD (l.length - 1) default).at_), .c .tt]
theorem span_bag {L : List (List Rc)} (h : LOk L) : spnB (bgL L) = spnL L.flatten := by
  have hel : (bgL L).L.length = L.length := entsO_len L 5
  unfold spnB spnL
  rw [hel]
  rcases Nat.eq_zero_or_pos L.length with h0 | h0
  · have : L = [] := List.length_eq_zero_iff.1 h0
    subst this
    rfl
  · have hl := flat_last h.ch h0
    rw [if_neg (by omega), if_neg (by omega), hl.2, flat_first h.ch, show (bgL L).L.getD 0 default = entO (5 + (secsB (L.take 0)).length) (L.getD 0 default) from entsO_at L 5 0 h0,
      show (bgL L).L.getD (L.length - 1) default = entO (5 + (secsB (L.take (L.length - 1))).length) (L.getD (L.length - 1) default) from entsO_at L 5 (L.length - 1) (by omega)]
    obtain ⟨hx, _, _⟩ := h.at h0
    obtain ⟨hy, _, _⟩ := h.at (i := L.length - 1) (by omega)
    have n0 := (okX_at hx hx.1).2.1.1
    have nl := (okX_at hy (k := (L.getD (L.length - 1) default).length - 1) (by have := hy.1; omega)).2.1.1
    simp only [entO, Int.toNat_of_nonneg n0, Int.toNat_of_nonneg nl]
end Go.Proofs.YtkjkbpnhocjenaaGreat


namespace Go.Proofs.YtkjkbpnhocjenaaGreat
open Go.X
open P4
open P5
theorem addE_0 {w : Wr} {r : Rc} : addE w r = 0 ↔ w.cl = false ∧ okR r ∧ w.la ≤ r.at_ ∧ w.ad < 4096 := by
  unfold addE okR
  by_cases h1 : w.cl = true
  · rw [if_pos h1]; simp [h1]
  rw [if_neg h1]
  by_cases h2 : isT r.tp
  · rw [if_neg (fun q => q h2)]
    by_cases h3 : r.at_ < 0 ∨ 1099511627776 < r.at_
    · rw [if_pos h3]
      exact ⟨fun q => absurd q (by decide), fun q => by omega⟩
    · rw [if_neg h3]
      by_cases h4 : 4000 < r.pl.length
      · rw [if_pos h4]
        exact ⟨fun q => absurd q (by decide), fun q => by omega⟩
      · rw [if_neg h4]
        by_cases h5 : r.at_ < w.la
        · rw [if_pos h5]
          exact ⟨fun q => absurd q (by decide), fun q => by omega⟩
        · rw [if_neg h5]
          by_cases h6 : 4096 ≤ w.ad
          · rw [if_pos h6]
            exact ⟨fun q => absurd q (by decide), fun q => by omega⟩
          · rw [if_neg h6]
            exact ⟨fun _ => ⟨by simpa using h1, ⟨h2, by omega, by omega⟩, by omega, by omega⟩, fun _ => rfl⟩
  · rw [if_pos h2]
    exact ⟨fun q => absurd q (by decide), fun q => absurd q.2.1.1 h2⟩
/-- A writer that accepted some records. -/
structure WI (w : Wr) (A : List Rc) : Prop where
  cl : w.cl = false
  fl : w.L.flatten = A
  ch : ∀ x ∈ w.L, 0 < x.length
  ok : ∀ r ∈ A, okR r
  pw : A.Pairwise fun a b => a.at_ ≤ b.at_
  la : w.la = (lastR w.L).at_
  lw : w.la = 0 ∨ ∃ r ∈ A, w.la = r.at_
  tp : ∀ r ∈ A, r.at_ ≤ w.la
  ad : w.ad = A.length
theorem WI.new (n : Int) : WI (newW n) [] :=
  ⟨rfl, rfl, fun x hx => (by cases hx), fun r hr => (by cases hr), List.Pairwise.nil, rfl, .inl rfl, fun r hr => (by cases hr), rfl⟩
theorem set_last {L : List (List Rc)} (h : 0 < L.length) (y : List Rc) : L.set (L.length - 1) y = L.take (L.length - 1) ++ [y] := by
  apply List.ext_getElem
  · rw [List.length_set, List.length_append, List.length_take, List.length_singleton]; omega
  · intro i h1 h2
    rw [List.length_set] at h1
    rw [List.getElem_set, List.getElem_append]
    split
    · subst_vars
      rw [dif_neg (by rw [List.length_take]; omega)]
      simp
    · rw [dif_pos (by rw [List.length_take]; omega), List.getElem_take]
theorem put_flat (n : Int) (L : List (List Rc)) (r : Rc) : (putR n L r).flatten = L.flatten ++ [r] := by
  unfold putR
  split
  · rename_i h
    have h0 : 0 < L.length := h.1
    rw [set_last h0, List.flatten_append]
    conv => rhs; rw [← List.take_append_drop (L.length - 1) L, drop_consG L (show L.length - 1 < L.length by omega), List.drop_of_length_le (show L.length ≤ L.length - 1 + 1 by omega), List.flatten_append]
    simp
  · simp
theorem put_ch {n : Int} {L : List (List Rc)} {r : Rc} (h : ∀ x ∈ L, 0 < x.length) : ∀ x ∈ putR n L r, 0 < x.length := fun x hx => by
  unfold putR at hx
  split at hx
  · rename_i h0
    rw [set_last h0.1] at hx
    rcases List.mem_append.1 hx with q | q
    · exact h x (List.mem_of_mem_take q)
    · rw [List.mem_singleton.1 q]; simp
  · rcases List.mem_append.1 hx with q | q
    · exact h x q
    · rw [List.mem_singleton.1 q]; simp
theorem put_last (n : Int) (L : List (List Rc)) (r : Rc) : lastR (putR n L r) = r := by
  have key : ∀ (M : List (List Rc)) (y : List Rc), lastR (M ++ [y ++ [r]]) = r := fun M y => by
    unfold lastR
    rw [if_pos (by simp)]
    have e : (M ++ [y ++ [r]]).getD ((M ++ [y ++ [r]]).length - 1) default = y ++ [r] := by simp
    rw [e]
    simp
  unfold putR
  split
  · rename_i h
    rw [set_last h.1]
    exact key _ _
  · exact key L []
theorem WI.add {w : Wr} {A : List Rc} {r : Rc} (h : WI w A) (h0 : addE w r = 0) : WI (addW w r) (A ++ [r]) := by
  obtain ⟨_, ho, hla, had⟩ := addE_0.1 h0
  unfold addW
  rw [if_pos h0]
  refine ⟨h.cl, ?_, put_ch h.ch, fun q hq => ?_, ?_, ?_, .inr ⟨r, by simp, rfl⟩, fun q hq => ?_, ?_⟩
  · rw [put_flat, h.fl]
  · rcases List.mem_append.1 hq with q1 | q1
    · exact h.ok q q1
    · rw [List.mem_singleton.1 q1]; exact ho
  · refine List.pairwise_append.2 ⟨h.pw, List.pairwise_singleton _ _, fun a ha b hb => ?_⟩
    rw [List.mem_singleton.1 hb]
    have := h.tp a ha
    omega
  · simp only [put_last]
  · rcases List.mem_append.1 hq with q1 | q1
    · have := h.tp q q1
      simp only
      omega
    · rw [List.mem_singleton.1 q1]
      exact Int.le_refl _
  · simp only [h.ad, List.length_append, List.length_singleton]
theorem addW_no {w : Wr} {r : Rc} (h : addE w r ≠ 0) : addW w r = w := if_neg h
theorem WI.lok {w : Wr} {A : List Rc} (h : WI w A) (hn : A.length ≤ 50) : LOk w.L :=
  ⟨h.ch, by rw [h.fl]; exact h.ok, by rw [h.fl]; exact h.pw, by rw [h.fl]; exact hn⟩
/-- One more record at a writer, and what was accepted. -/
def stepA (p : Wr × List Rc) (r : Rc) : Wr × List Rc := if addE p.1 r = 0 then (addW p.1 r, p.2 ++ [r]) else p
def runA (n : Int) (l : List Rc) : Wr × List Rc := l.foldl stepA (newW n, [])
theorem runA_snoc (n : Int) (l : List Rc) (r : Rc) : runA n (l ++ [r]) = stepA (runA n l) r := by simp [runA]
theorem runA_WI (n : Int) (l : List Rc) : WI (runA n l).1 (runA n l).2 ∧ (runA n l).2.length ≤ l.length := by
  suffices ∀ k, k ≤ l.length → WI (runA n (l.take k)).1 (runA n (l.take k)).2 ∧ (runA n (l.take k)).2.length ≤ k by
    have := this l.length (Nat.le_refl _)
    rwa [List.take_length] at this
  intro k
  induction k with
  | zero => intro _; exact ⟨WI.new n, Nat.le_refl _⟩
  | succ k ih =>
    intro hk
    obtain ⟨h1, h2⟩ := ih (by omega)
    rw [take_snocG l (by omega), runA_snoc]
    unfold stepA
    split
    · rename_i h0
      exact ⟨h1.add h0, by simp only [List.length_append, List.length_singleton]; omega⟩
    · exact ⟨h1, by omega⟩
/-- The records of a list that a writer accepts. -/
def accL (l : List Rc) : List Rc := (runA 65536 l).2
/-- Records that every writer accepts. -/
structure AOk (A : List Rc) : Prop where
  ok : ∀ r ∈ A, okR r
  pw : A.Pairwise fun a b => a.at_ ≤ b.at_
  n : A.length ≤ 50
theorem accL_ok {l : List Rc} (h : l.length ≤ 50) : AOk (accL l) := by
  have h1 := runA_WI 65536 l
  exact ⟨h1.1.ok, h1.1.pw, Nat.le_trans h1.2 h⟩
def wrA (n : Int) (A : List Rc) : Wr := A.foldl addW (newW n)
theorem wrA_snoc (n : Int) (l : List Rc) (r : Rc) : wrA n (l ++ [r]) = addW (wrA n l) r := by simp [wrA]
theorem AOk.run {A : List Rc} (h : AOk A) (n : Int) : ∀ k, k ≤ A.length → WI (wrA n (A.take k)) (A.take k) ∧ (k < A.length → addE (wrA n (A.take k)) (A.getD k default) = 0) := by
  have nx : ∀ k, k < A.length → WI (wrA n (A.take k)) (A.take k) → addE (wrA n (A.take k)) (A.getD k default) = 0 := fun k hk hw => by
    have ho := h.ok _ (mem_getD hk)
    refine addE_0.2 ⟨hw.cl, ho, ?_, by rw [hw.ad, List.length_take]; have := h.n; omega⟩
    rcases hw.lw with q | ⟨r, hr, q⟩
    · rw [q]; exact ho.2.1.1
    · rw [q]
      obtain ⟨i, hi, e⟩ := List.mem_iff_getElem.1 hr
      rw [List.length_take] at hi
      have hp := List.pairwise_iff_getElem.1 h.pw i k (by omega) hk (by omega)
      rw [getD_at hk, ← e, List.getElem_take]
      exact hp
  intro k
  induction k with
  | zero => intro _; exact ⟨WI.new n, fun hk => nx 0 hk (WI.new n)⟩
  | succ k ih =>
    intro hk
    obtain ⟨h1, h2⟩ := ih (by omega)
    have h3 : WI (wrA n (A.take (k + 1))) (A.take (k + 1)) := by
      rw [take_snocG A (by omega), wrA_snoc]
      exact h1.add (h2 (by omega))
    exact ⟨h3, fun hq => nx (k + 1) hq h3⟩
theorem AOk.wr {A : List Rc} (h : AOk A) (n : Int) : WI (wrA n A) A := by
  have := (h.run n A.length (Nat.le_refl _)).1
  rwa [List.take_length] at this
/-- The bag of some records. -/
def madeB (n : Int) (A : List Rc) : List UInt8 := bagB (wrA n A).L
theorem AOk.lok {A : List Rc} (h : AOk A) (n : Int) : LOk (wrA n A).L := (h.wr n).lok h.n
theorem made_len {A : List Rc} (h : AOk A) (n : Int) : (madeB n A).length ≤ 400000 := by
  have hk := h.lok n
  have hl := bagB_len (wrA n A).L
  have h1 := hk.secs
  have h2 := hk.len
  have h4 : (indB (wrA n A).L).length ≤ 20 + 40 * (wrA n A).L.length + 60 * (wrA n A).L.flatten.length := by
    have key : ∀ (M : List (List Rc)) (off : Nat), (∀ r ∈ M.flatten, okR r) → (idxB off M).length ≤ 40 * M.length + 60 * M.flatten.length := by
      intro M
      induction M with
      | nil => intro off _; simp [idxB]
      | cons x M ih =>
        intro off hM
        have g1 := ih (off + (secB x).length) fun r hr => hM r (by rw [List.flatten_cons, List.mem_append]; exact .inr hr)
        have g2 := desB_len (off := off) (fi := (x.getD 0 default).at_.toNat) (la := (x.getD (x.length - 1) default).at_.toNat) (T := tal x) fun t ht => by
          obtain ⟨r, hr, e⟩ := List.mem_map.1 (((tal_inv x).2.1 t.1).1 (List.mem_map.2 ⟨t, ht, rfl⟩))
          rw [← e]; exact (hM r (by rw [List.flatten_cons, List.mem_append]; exact .inl hr)).1.1.2
        have g3 := tal_le x
        rw [List.flatten_cons, List.length_append, List.length_cons, idxB, List.length_append]
        unfold idxE
        omega
    have g := key (wrA n A).L 5 hk.ok
    have v1 := venc_le 2
    have v2 := venc_le (wrA n A).L.length
    unfold indB
    rw [List.length_append, List.length_append]
    omega
  have h5 := sealL_len (indB (wrA n A).L)
  have h6 := textL_len (sealL (indB (wrA n A).L))
  have h7 := hk.n
  unfold madeB
  omega
theorem made_open {A : List Rc} (h : AOk A) (n : Int) : bgE (madeB n A) = 0 ∧ bgO (madeB n A) = bgL (wrA n A).L ∧ BOk (bgL (wrA n A).L) := by
  obtain ⟨h1, h2⟩ := bag_open (h.lok n)
  exact ⟨h1, h2, by rw [← h2]; exact BOk.of h1 (made_len h n)⟩
end Go.Proofs.YtkjkbpnhocjenaaGreat

