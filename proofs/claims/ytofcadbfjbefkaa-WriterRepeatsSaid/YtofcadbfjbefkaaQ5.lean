/- Part 5 of the texts that a walk of this program rests on: an abstract machine, its soundness, contracts of functions. No statement of the seat is proved in this file. -/
import Derived.Test.YtofcadbfjbefkaaQ4
namespace Go.Proofs.Ytofcadbfjbefkaa
open Go.X
set_option linter.unusedSimpArgs false
set_option linter.unusedVariables false
abbrev noI : List Int := []
abbrev wR (lost : List Int) (cl D : Nat) (W : Ws) (c : Nat) (cf : Nat → Nat) : List Fam :=
  [.one (.row false false 45 1 lost.length cl (Go.X.rowOf (fun x => [.i .u32 x]) lost)), .one (wrc 2 3 7 50 W.la (rQ D)), .one (hist 4 (rQ D) W.l.length c), .one (peM 5 W.M W.ck), .one (smps true W.l c), prs 6 W.D cf, rqs W.D cf]
theorem rH18oS0 {σ : List Sg} {H h' : List Fam} {v : T} {K : T → List Fam → Prop} {H' : List Fam} {v' : T} {N : Nat} (hk : K v' H') (hN : H.length = N := by (try simp only [↓List.length_cons, ↓List.length_nil, Nat.reduceAdd]) <;> rfl) (h : givesF σ N H σ h' = some H' := by (try simp (maxSteps := 1000000) only [givesF, setF, updF, Fam.zeroth, Fam.rk, Ck.rk, C.rk, E.rk, T.rk, key, List.map_cons, List.map_nil, List.cons_append, List.nil_append, List.length_cons, List.length_nil, Option.map_some, Option.bind_some, Nat.reduceAdd, Nat.zero_add, Nat.add_zero, Nat.add_sub_cancel_left, Int.toNat_natCast, reps, List.all_cons, List.all_nil, C.flat, List.append_eq, Bool.not_true, Bool.and_true, Bool.or_false, Bool.or_self, Bool.not_false, List.append_nil, Bool.and_self, ↓prC_rk, ↓rqO_rk, encQ]) <;> rfl) (hv : v.rk σ N = v' := by (try simp only [givesF, setF, updF, Fam.zeroth, Fam.rk, Ck.rk, C.rk, E.rk, T.rk, key, List.map_cons, List.map_nil, List.cons_append, List.nil_append, List.length_cons, List.length_nil, Option.map_some, Option.bind_some, Nat.reduceAdd, Nat.zero_add, Nat.add_zero, Nat.add_sub_cancel_left, Int.toNat_natCast, reps, List.all_cons, List.all_nil, C.flat, List.append_eq, Bool.not_true, Bool.and_true, Bool.or_false, Bool.or_self, Bool.not_false, List.append_nil, Bool.and_self, ↓prC_rk, ↓rqO_rk, encQ]) <;> rfl) : RetG σ H h' v K := ret_mk3 hN h hv hk
theorem rH18oS1 {σ : List Sg} {H h' : List Fam} {v : T} {K : T → List Fam → Prop} {H' : List Fam} {v' : T} {N : Nat} (hk : K v' H') (hN : H.length = N := by (try simp only [↓List.length_cons, ↓List.length_nil, Nat.reduceAdd]) <;> rfl) (h : givesF σ N H σ h' = some H' := by (try simp (maxSteps := 1000000) only [givesF, setF, updF, Fam.zeroth, Fam.rk, Ck.rk, C.rk, E.rk, T.rk, key, List.map_cons, List.map_nil, List.cons_append, List.nil_append, List.length_cons, List.length_nil, Option.map_some, Option.bind_some, Nat.reduceAdd, Nat.zero_add, Nat.add_zero, Nat.add_sub_cancel_left, Int.toNat_natCast, reps, List.all_cons, List.all_nil, C.flat, List.append_eq, Bool.not_true, Bool.and_true, Bool.or_false, Bool.or_self, Bool.not_false, List.append_nil, Bool.and_self, ↓prC_rk, ↓rqO_rk, encQ, encP]) <;> rfl) (hv : v.rk σ N = v' := by (try simp only [givesF, setF, updF, Fam.zeroth, Fam.rk, Ck.rk, C.rk, E.rk, T.rk, key, List.map_cons, List.map_nil, List.cons_append, List.nil_append, List.length_cons, List.length_nil, Option.map_some, Option.bind_some, Nat.reduceAdd, Nat.zero_add, Nat.add_zero, Nat.add_sub_cancel_left, Int.toNat_natCast, reps, List.all_cons, List.all_nil, C.flat, List.append_eq, Bool.not_true, Bool.and_true, Bool.or_false, Bool.or_self, Bool.not_false, List.append_nil, Bool.and_self, ↓prC_rk, ↓rqO_rk, encQ, encP]) <;> rfl) : RetG σ H h' v K := ret_mk3 hN h hv hk
theorem cH18oS2 {P : Program} {F : Nat} {args : List T} {H : List Fam} {K : T → List Fam → Prop} {σ : List Sg} {nl : List Fam} {args0 : List T} {h0 : List Fam} {Q : T → List Fam → Prop} {H2 H1 : List Fam} {N n : Nat} (hc : Ctr P F args0 h0 Q) (hk : ∀ v h', Q v h' → capsP h' → RetG σ H2 h' v K) (hap : apart σ = true := by rfl) (hnl : nl.all nilB = true := by rfl) (h1 : H ++ nl = H1 := by first | exact List.append_nil _ | ((try simp only [List.cons_append, List.nil_append]) <;> rfl)) (hN : H1.length = N := by (try simp only [↓List.length_cons, ↓List.length_nil, Nat.reduceAdd]) <;> rfl) (hn : H.length = n := by (try simp only [↓List.length_cons, ↓List.length_nil, Nat.reduceAdd]) <;> rfl) (hH : givesF σ N H1 σ h0 = some H2 := by (try simp (maxSteps := 1000000) only [givesF, setF, updF, Fam.zeroth, Fam.rk, Ck.rk, C.rk, E.rk, T.rk, key, List.map_cons, List.map_nil, List.cons_append, List.nil_append, List.length_cons, List.length_nil, Option.map_some, Option.bind_some, Nat.reduceAdd, Nat.zero_add, Nat.add_zero, Nat.add_sub_cancel_left, Int.toNat_natCast, reps, List.all_cons, List.all_nil, C.flat, List.append_eq, Bool.not_true, Bool.and_true, Bool.or_false, Bool.or_self, Bool.not_false, List.append_nil, Bool.and_self, ↓prC_rk, ↓rqO_rk]) <;> rfl) (hle : leS n H1 σ N σ h0 (belsK N (h0.map (Fam.rk σ N)) (argsK n args (args0.map (T.rk σ N)) True)) := by repeat' first | refine And.intro ?_ ?_ | exact xeC | fail) : CallK P F args H K := CallK.mk3 hc hap hnl h1 hN hn hH hle hk
set_option maxRecDepth 20000 in
set_option maxHeartbeats 8000000 in
theorem crepeats (de m : Int) (hd : 0 ≤ de ∧ de ≤ 255) (hm0 : 0 ≤ m ∧ m ≤ 255) (lost : List Int) (cl : Nat) (hl : ∀ x ∈ lost, 0 ≤ x ∧ x ≤ 4294967295) (hll : lost.length ≤ 9223372036854775807) : Ctr Try.prog 4 [.c (.i .u8 de), .c (.i .u8 m), .c (.sl 0 0 1 0 lost.length cl)] [.one (.row false false 45 1 lost.length cl (Go.X.rowOf (fun x => [.i .u32 x]) lost))] fun v h => v = .c .tt ∧ h = [.one (.row false false 45 1 lost.length cl (Go.X.rowOf (fun x => [.i .u32 x]) lost))] := by
  obtain ⟨a, rfl⟩ : ∃ a : Nat, de = a := ⟨de.toNat, by omega⟩
  obtain ⟨m, rfl⟩ : ∃ b : Nat, m = b := ⟨m.toNat, by omega⟩
  have ha : IntKind.i64.wrap ((a : Int).tmod 64) = ((a % 64 : Nat) : Int) := by
    rw [Int.tmod_eq_emod_of_nonneg (by omega), wrap_in64 ⟨by omega, by omega⟩]
    omega
  have h64 : 1 ≤ a % 64 + 1 ∧ a % 64 + 1 ≤ 64 := by omega
  have hwm : IntKind.i64.wrap (m : Int) = m := wrap_in64 ⟨by omega, by omega⟩
  refine Ctr.mk' tbv mixed Try.func4 rfl rfl rfl (fun _ _ => by kernel_rfl) (by kernel_rfl) (by rfl) (by rfl) (by (repeat' first | refine And.intro ?_ ?_ | exact xeC | fail)) ?_
  repeat' (first | (fail_if_success (with_reducible refine xstp ?_)); first | ((with_reducible refine And.intro (fun (hb : _ = true) => ?_) (fun (hb : _ = false) => ?_)) <;> replace hb := xnC hb <;> (try first | exact xfC | exact bff hb (by assumption) | exact bff (by assumption) hb)) | ((with_reducible refine And.intro ?_ ?_); focus exact xoC) | (with_reducible intro hc; (try simp only [capsP, and_true] at hc); (try exact xfC)) | ((fail_if_success (with_reducible first | refine xgon ?_ | intro _)); (conv => whnf); (fail_if_success (fail_if_success (with_reducible first | refine xstp ?_ | refine xgon ?_ | intro _)))))
  · refine cH18oS2 (σ := []) (nl := []) (cawake) ?_
    rintro v h' ⟨rfl, rfl⟩ hcaps
    refine rH18oS0 ?_
    repeat' (first | (fail_if_success (with_reducible refine xstp ?_)); first | ((with_reducible refine And.intro (fun (hb : _ = true) => ?_) (fun (hb : _ = false) => ?_)) <;> replace hb := xnC hb <;> (try first | exact xfC | exact bff hb (by assumption) | exact bff (by assumption) hb | (exfalso; simp only [List.length_nil] at hb; omega) | (exfalso; revert hb; decide) | (exfalso; simp at hb; done))) | (with_reducible refine Both.mk ?_ ?_) | ((with_reducible refine And.intro ?_ ?_); focus exact xoC) | ((with_reducible refine Or.inl ⟨?_, ?_, ?_⟩); (focus rfl); focus exact xaC) | ((with_reducible refine xwB ?_ ?_); focus exact xaC) | ((with_reducible refine xwC ?_ ?_); focus exact xaC) | ((with_reducible refine xwD ?_ ?_); focus exact xaC) | ((with_reducible refine xwE ?_ ?_); focus exact xaC) | (with_reducible intro hc; (try simp only [capsP, and_true] at hc); (try exact xfC)) | ((fail_if_success (with_reducible first | refine xgon ?_ | intro _)); (conv => whnf); (fail_if_success (fail_if_success (with_reducible first | refine xstp ?_ | refine Both.mk ?_ ?_ | refine xgon ?_ | intro _)))))
    refine FinK.mk ⟨[0], _, _, ⟨rfl, rfl⟩, ?_⟩; (repeat' first | refine And.intro ?_ ?_ | exact xeC | fail)
  · refine cH18oS2 (σ := []) (nl := []) (cawake) ?_
    rintro v h' ⟨rfl, rfl⟩ hcaps
    refine rH18oS0 ?_
    repeat' (first | (fail_if_success (with_reducible refine xstp ?_)); first | ((with_reducible refine And.intro (fun (hb : _ = true) => ?_) (fun (hb : _ = false) => ?_)) <;> replace hb := xnC hb <;> (try first | exact xfC | exact bff hb (by assumption) | exact bff (by assumption) hb | (exfalso; simp only [List.length_nil] at hb; omega) | (exfalso; revert hb; decide) | (exfalso; simp at hb; done))) | (with_reducible refine Both.mk ?_ ?_) | ((with_reducible refine And.intro ?_ ?_); focus exact xoC) | ((with_reducible refine Or.inl ⟨?_, ?_, ?_⟩); (focus rfl); focus exact xaC) | ((with_reducible refine xwB ?_ ?_); focus exact xaC) | ((with_reducible refine xwC ?_ ?_); focus exact xaC) | ((with_reducible refine xwD ?_ ?_); focus exact xaC) | ((with_reducible refine xwE ?_ ?_); focus exact xaC) | (with_reducible intro hc; (try simp only [capsP, and_true] at hc); (try exact xfC)) | ((fail_if_success (with_reducible first | refine xgon ?_ | intro _)); (conv => whnf); (fail_if_success (fail_if_success (with_reducible first | refine xstp ?_ | refine Both.mk ?_ ?_ | refine xgon ?_ | intro _)))))
    refine FinK.mk ⟨[0], _, _, ⟨rfl, rfl⟩, ?_⟩; (repeat' first | refine And.intro ?_ ?_ | exact xeC | fail)
  rw [ha]
  generalize hD : a % 64 + 1 = D at *
  have hDa : ((a % 64 : Nat) : Int) = (D : Int) - 1 := by omega
  rw [show ((a % 64 : Nat) : Int) + 1 = (D : Int) by omega]
  refine cH18oS2 (σ := []) (nl := []) (cnewW 7 50 (rQ D)) ?_
  rintro v h' (⟨hq, rfl, rfl⟩ | ⟨hq, rfl, rfl⟩) hcaps
  rotate_left 1
  · exact absurd ⟨by decide, rQ_ok h64⟩ hq
  refine rH18oS0 ?_
  repeat' (first | (fail_if_success (with_reducible refine xstp ?_)); first | ((with_reducible refine And.intro (fun (hb : _ = true) => ?_) (fun (hb : _ = false) => ?_)) <;> replace hb := xnC hb <;> (try first | exact xfC | exact bff hb (by assumption) | exact bff (by assumption) hb)) | ((fail_if_success (with_reducible first | refine xgon ?_ | intro _)); (conv => whnf); (fail_if_success (fail_if_success (with_reducible first | refine xstp ?_ | refine xgon ?_ | intro _)))))
  refine cH18oS2 (σ := [.whole 2, .whole 3, .whole 4, .whole 5, .whole 6, .whole 7]) (nl := []) (cmatchW 7 50 (rQ D) W0 0 (fun _ => 0) 3 2 0 (rQ D) W0_ok (by decide) (by decide) (by intro s hs; cases hs)) ?_ (hle := by (repeat' first | refine And.intro ?_ ?_ | exact xeC | fail) <;> exact xmC)
  rw [mr_E h64, mr_W h64]
  rintro v h' ⟨cf1, rfl, rfl⟩ hcaps
  refine rH18oS0 ?_
  repeat' (first | (fail_if_success (with_reducible refine xstp ?_)); first | ((with_reducible refine And.intro (fun (hb : _ = true) => ?_) (fun (hb : _ = false) => ?_)) <;> replace hb := xnC hb <;> (try first | exact xfC | exact bff hb (by assumption) | exact bff (by assumption) hb)) | ((fail_if_success (with_reducible first | refine xgon ?_ | intro _)); (conv => whnf); (fail_if_success (fail_if_success (with_reducible first | refine xstp ?_ | refine xgon ?_ | intro _)))))
  refine LoopK.mk' ({k : Nat // k ≤ m} × Nat × (Nat → Nat))
    (fun ⟨⟨k, _⟩, c, cf⟩ => ⟨[(0, .c (.i .u8 a)), (1, .c (.i .u8 m)), (2, .c (.sl 0 0 1 0 lost.length cl)), (8, .c (.p 1 0 0)), (10, .c (.i .i64 k))], wR lost cl D (oneW (heldL rF k D) k (rP 0 0 [] 0)) c cf⟩)
    (fun k => m - k.1.1)
    ⟨⟨⟨0, Nat.zero_le _⟩, 0, cf1⟩, [0, 2, 3, 4, 5, 8, 9], ?_⟩ ?_
  · (repeat' first | refine And.intro ?_ ?_ | exact xeC | fail)
    all_goals (exact xmC)
  rintro ⟨⟨k, hk⟩, c, cf⟩
  repeat' (first | (fail_if_success (with_reducible refine xstp ?_)); first | ((with_reducible refine And.intro (fun (hb : _ = true) => ?_) (fun (hb : _ = false) => ?_)) <;> replace hb := xnC hb <;> (try first | exact xfC | exact bff hb (by assumption) | exact bff (by assumption) hb)) | (with_reducible intro hc; (try simp only [capsP, and_true] at hc); (try exact xfC)) | ((fail_if_success (with_reducible first | refine xgon ?_ | intro _)); (conv => whnf); (fail_if_success (fail_if_success (with_reducible first | refine xstp ?_ | refine xgon ?_ | intro _)))))
  · have hw := r_wr (k := k) (D := D) (by omega) h64 (rP 0 0 [] 0)
    refine cH18oS2 (σ := [.whole 1, .whole 2, .whole 3, .whole 4, .whole 5, .whole 6]) (nl := []) (cwrite 7 50 (rQ D) (oneW (heldL rF k D) k (rP 0 0 [] 0)) c cf k ⟨#[120]⟩ (oneW_ok _ _ _) (r_hl (by omega)) ⟨show (0 : Int) ≤ k by omega, show (k : Int) ≤ 1000000 by omega⟩) ?_ (hle := by (repeat' first | refine And.intro ?_ ?_ | exact xeC | fail) <;> exact xmC)
    rw [hw.1, hw.2.1, hw.2.2]
    rintro v h' ⟨c2, rfl, rfl⟩ hcaps
    refine rH18oS0 ?_
    repeat' (first | (fail_if_success (with_reducible refine xstp ?_)); first | ((with_reducible refine And.intro (fun (hb : _ = true) => ?_) (fun (hb : _ = false) => ?_)) <;> replace hb := xnC hb <;> (try first | exact xfC | exact bff hb (by assumption) | exact bff (by assumption) hb)) | ((with_reducible refine And.intro ?_ ?_); focus exact xoC) | ((fail_if_success (with_reducible first | refine xgon ?_ | intro _)); (conv => whnf); (fail_if_success (fail_if_success (with_reducible first | refine xstp ?_ | refine xgon ?_ | intro _)))))
    refine ⟨⟨⟨k + 1, by omega⟩, c2, cf⟩, [0, 1, 2, 3, 7, 5, 6], by simp only; omega, ?_⟩
    (repeat' first | refine And.intro ?_ ?_ | exact xeC | fail)
    all_goals (exact xmC)
  obtain rfl : k = m := by omega
  refine cH18oS2 (σ := [.whole 1, .whole 2, .whole 3, .whole 4, .whole 5, .whole 6]) (nl := []) (cpollW 7 50 (rQ D) (oneW (heldL rF k D) k (rP 0 0 [] 0)) c cf 100 (oneW_ok _ _ _) (show 1 ≤ 12 by decide) (r_hl (by omega)) ⟨show (0 : Int) ≤ k by omega, show (k : Int) ≤ 1000000 by omega⟩ (oneW_D (rP_ok (by omega) (by omega) (Nat.zero_le _) (by omega))) (by decide) (held_t rF_nice) ⟨Int.le_refl 0, show (0 : Int) ≤ 1099511627776 by decide⟩) ?_ (hle := by (repeat' first | refine And.intro ?_ ?_ | exact xeC | fail) <;> exact xmC)
  rw [(r_po (m := k) (D := D) (p := rP 0 0 [] 0) (at' := 100) (by decide)).1, (r_po (m := k) (D := D) (p := rP 0 0 [] 0) (at' := 100) (by decide)).2, r_P0]
  generalize polL 7 (heldL rF k D) 3 (rP 0 0 [] 0) k 100 = L0
  rintro v h' ⟨c3, cf3, co, rfl, rfl⟩ hcaps
  refine rH18oS0 ?_
  repeat' (first | (fail_if_success (with_reducible refine xstp ?_)); first | ((fail_if_success (with_reducible first | refine xgon ?_ | intro _)); (conv => whnf); (fail_if_success (fail_if_success (with_reducible first | refine xstp ?_ | refine xgon ?_ | intro _)))))
  refine LoopK.mk' ({j : Nat // j ≤ lost.length} × Nat × (Nat → Nat))
    (fun ⟨⟨j, _⟩, c, cf⟩ => ⟨[(0, .c (.i .u8 a)), (1, .c (.i .u8 k)), (2, .c (.sl 0 0 1 0 lost.length cl)), (8, .c (.p 1 0 0)), (13, .c (.i .i64 (100 + 50 * (j : Int)))), (14, .c (.i .i64 j))], wR lost cl D (oneW (heldL rF k D) k (rP 0 k [] (if 0 < k then 150 + 50 * (j : Int) else 0))) c cf⟩)
    (fun j => lost.length - j.1.1)
    ⟨⟨⟨0, Nat.zero_le _⟩, c3, cf3⟩, [0, 1, 2, 3, 7, 5, 8], ?_⟩ ?_
  · (repeat' first | refine And.intro ?_ ?_ | exact xeC | fail)
    all_goals (exact xmC)
  rintro ⟨⟨j, hj⟩, c, cf⟩
  repeat' (first | (fail_if_success (with_reducible refine xstp ?_)); first | ((with_reducible refine And.intro (fun (hb : _ = true) => ?_) (fun (hb : _ = false) => ?_)) <;> replace hb := xnC hb <;> (try first | exact xfC | exact bff hb (by assumption) | exact bff (by assumption) hb)) | ((with_reducible refine And.intro ?_ ?_); focus exact xoC) | (with_reducible intro hc; (try simp only [capsP, and_true] at hc); (try exact xfC)) | ((fail_if_success (with_reducible first | refine xgon ?_ | intro _)); (conv => whnf); (fail_if_success (fail_if_success (with_reducible first | refine xstp ?_ | refine xgon ?_ | intro _)))))
  · have hk0 : 0 < k := by omega
    rw [if_pos hk0]
    refine cH18oS2 (σ := [.whole 1, .name 2, .whole 3, .whole 5, .name 6]) (nl := []) (cnext 7 50 (rQ D) (oneW (heldL rF k D) k (rP 0 k [] (150 + 50 * (j : Int)))) cf (oneW_ok _ _ _)) ?_ (hle := by (repeat' first | refine And.intro ?_ ?_ | exact xeC | fail) <;> exact xmC)
    rintro v h' ⟨b, is, hnx, rfl, rfl⟩ hcaps
    obtain ⟨rfl, rfl⟩ := (nx_one hnx).1 (by omega)
    refine rH18oS0 ?_
    repeat' (first | (fail_if_success (with_reducible refine xstp ?_)); first | ((with_reducible refine And.intro (fun (hb : _ = true) => ?_) (fun (hb : _ = false) => ?_)) <;> replace hb := xnC hb <;> (try first | exact xfC | exact bff hb (by assumption) | exact bff (by assumption) hb)) | ((with_reducible refine And.intro ?_ ?_); focus exact xoC) | ((fail_if_success (with_reducible first | refine xgon ?_ | intro _)); (conv => whnf); (fail_if_success (fail_if_success (with_reducible first | refine xstp ?_ | refine xgon ?_ | intro _)))))
    have hmx : max (100 + 50 * (j : Int)) (150 + 50 * (j : Int)) = 150 + 50 * (j : Int) := by omega
    rw [hmx]
    have hat : atOk (150 + 50 * (j : Int)) := ⟨by omega, by omega⟩
    refine cH18oS2 (σ := [.whole 1, .whole 2, .whole 3, .whole 4, .whole 5, .whole 6]) (nl := []) (cpollW 7 50 (rQ D) (oneW (heldL rF k D) k (rP 0 k [] (150 + 50 * (j : Int)))) c cf (150 + 50 * (j : Int)) (oneW_ok _ _ _) (show 1 ≤ 12 by decide) (r_hl (by omega)) ⟨show (0 : Int) ≤ k by omega, show (k : Int) ≤ 1000000 by omega⟩ (oneW_D (rP_ok (by omega) (by omega) (Nat.zero_le _) (by omega))) (by decide) (held_t rF_nice) ⟨Int.le_refl 0, show (0 : Int) ≤ 1099511627776 by decide⟩) ?_ (hle := by (repeat' first | refine And.intro ?_ ?_ | exact xeC | fail) <;> exact xmC)
    rw [(r_po hat).1, (r_po hat).2, rp_hb (show (0 : Int) < k by omega) (Int.le_refl _), rp_hbP (show (0 : Int) < k by omega) (Int.le_refl _)]
    obtain ⟨LH, hH1, hH2, hH3, hH4, hHe⟩ := hb_is (rP 0 k [] (150 + 50 * (j : Int))) k (150 + 50 * (j : Int)) rfl
    rw [← hHe]
    rintro v h' ⟨c4, cf4, co4, rfl, rfl⟩ hcaps
    refine rH18oS0 ?_
    repeat' (first | (fail_if_success (with_reducible refine xstp ?_)); first | ((with_reducible refine And.intro (fun (hb : _ = true) => ?_) (fun (hb : _ = false) => ?_)) <;> replace hb := xnC hb <;> (try first | exact xfC | exact bff hb (by assumption) | exact bff (by assumption) hb)) | ((with_reducible refine And.intro ?_ ?_); focus exact xoC) | ((fail_if_success (with_reducible first | refine xgon ?_ | intro _)); (conv => whnf); (fail_if_success (fail_if_success (with_reducible first | refine xstp ?_ | refine xgon ?_ | intro _)))))
    obtain ⟨b, hb0⟩ : ∃ b : Nat, lost.getD j default = (b : Int) := ⟨(lost.getD j default).toNat, by
      have := hl (lost.getD j default) (by rw [getD_at (show j < lost.length by omega)]; exact List.getElem_mem _)
      omega⟩
    have hb32 : b ≤ 4294967295 := by
      have := hl (lost.getD j default) (by rw [getD_at (show j < lost.length by omega)]; exact List.getElem_mem _)
      omega
    rw [hwm, show 0 + ((j : Nat) : Int).toNat = j by omega, hb0]
    refine LoopK.mk' ({i : Nat // i ≤ k} × Nat)
      (fun ⟨⟨i, _⟩, cm⟩ => ⟨[(0, .c (.i .u8 a)), (1, .c (.i .u8 k)), (2, .c (.sl 0 0 1 0 lost.length cl)), (8, .c (.p 1 0 0)), (13, .c (.i .i64 (150 + 50 * (j : Int)))), (14, .c (.i .i64 j)), (18, .c (.p 7 0 0)), (19, .c (.i .u32 ((b / 2 ^ i : Nat) : Int))), (20, .c (.i .i64 ((i : Int) + 1)))], wR lost cl D (oneW (heldL rF k D) k (rP 0 k [] (150 + 50 * (j : Int) + 50))) c4 cf4 ++ [.one (.cells true (encP (.sl 8 0 1 0 (msI b i).length cm) (rA 1 k (msI b i)))), .one (ints true (msI b i) cm)]⟩)
      (fun i => k - i.1.1)
      ⟨⟨⟨0, Nat.zero_le _⟩, 0⟩, [0, 1, 2, 3, 7, 5, 8, 10, 99], ?_⟩ ?_
    · (repeat' first | refine And.intro ?_ ?_ | exact xeC | fail)
      all_goals first | (exact xmC) | (rw [Nat.pow_zero, Nat.div_one])
    rintro ⟨⟨i, hi⟩, cm⟩
    have hml := ms_len b i
    have hy2 := nt_mod (b / 2 ^ i)
    have hyd := nt_div (b / 2 ^ i)
    have hyb : b / 2 ^ i ≤ b := Nat.div_le_self _ _
    have hwu : IntKind.u32.wrap ((b / 2 ^ (i + 1) : Nat) : Int) = ((b / 2 ^ (i + 1) : Nat) : Int) := nt_u32 (Nat.le_trans (Nat.div_le_self _ _) hb32)
    repeat' (first | (fail_if_success (with_reducible refine xstp ?_)); first | ((with_reducible refine And.intro (fun (hb : _ = true) => ?_) (fun (hb : _ = false) => ?_)) <;> replace hb := xnC hb <;> (try first | exact xfC | exact bff hb (by assumption) | exact bff (by assumption) hb)) | ((with_reducible refine And.intro ?_ ?_); focus exact xoC) | ((with_reducible refine Or.inl ⟨?_, ?_, ?_⟩); (focus rfl); focus exact xaC) | (with_reducible intro hc; (try simp only [capsP, and_true] at hc); (try exact xfC)) | ((fail_if_success (with_reducible first | refine xgon ?_ | intro _)); (conv => whnf); (fail_if_success (fail_if_success (with_reducible first | refine xstp ?_ | refine xgon ?_ | intro _)))))
    · have hodd : b / 2 ^ i % 2 = 1 := by omega
      rename_i c5
      have hl1 : (msI b i ++ [(i : Int) + 1]).length = (msI b i).length + 1 := by rw [List.length_append]; rfl
      rw [hyd, nt_pow]
      refine ⟨⟨⟨i + 1, by omega⟩, c5⟩, [0, 1, 2, 3, 4, 5, 6, 7, 10], by simp only; omega, ?_⟩
      simp only [ms_yes hodd]
      (repeat' first | refine And.intro ?_ ?_ | exact xeC | fail)
      all_goals first
        | (exact xmC)
        | exact Nat.le_of_eq hl1
        | exact hl1.symm
        | exact hwu
        | (intro i2 hi2; exact app_rowG Go.X.encI (msI b i) ((i : Int) + 1) _ rfl i2 hi2)
    · have hev : ¬ b / 2 ^ i % 2 = 1 := by omega
      rw [hyd, nt_pow]
      refine ⟨⟨⟨i + 1, by omega⟩, cm⟩, [0, 1, 2, 3, 4, 5, 6, 7, 8], by simp only; omega, ?_⟩
      simp only [ms_no hev]
      (repeat' first | refine And.intro ?_ ?_ | exact xeC | fail)
      all_goals first
        | (exact xmC)
        | exact hwu
    obtain rfl : i = k := by omega
    have hmem : ∀ x ∈ msI b i, 1 ≤ x ∧ x ≤ (i : Int) := fun x hx => ms_mem hx
    have hchk : chk (rA 1 i (msI b i)) = 0 := rA_chk (by omega) (by omega) (by omega) hmem (ms_pw b i)
    have hak := ak_ok (l := heldL rF i D) (ac := 0) (se := i) (bt := 150 + 50 * (j : Int) + 50) hchk (by omega) hmem (ms_pw b i)
    refine cH18oS2 (σ := [.whole 1, .name 2, .whole 3, .whole 5, .whole 6, .whole 8]) (nl := []) (cack 7 50 (rQ D) (oneW (heldL rF i D) i (rP 0 i [] (150 + 50 * (j : Int) + 50))) cf4 (rA 1 i (msI b i)) true cm (150 + 50 * (j : Int)) (oneW_ok _ _ _) ⟨show (0 : Int) ≤ i by omega, show (i : Int) ≤ 1000000 by omega⟩ (Nat.zero_le _) (show (msI b i).length ≤ 1000000 by omega) (oneW_D (Nat.zero_le _))) ?_ (hle := by (repeat' first | refine And.intro ?_ ?_ | exact xeC | fail) <;> exact xmC)
    rw [hak.1, hak.2, show max (0 : Int) (1 - 1) = 0 from rfl]
    rintro v h' ⟨cf5, rfl, rfl⟩ hcaps
    refine rH18oS1 ?_
    repeat' (first | (fail_if_success (with_reducible refine xstp ?_)); first | ((with_reducible refine And.intro (fun (hb : _ = true) => ?_) (fun (hb : _ = false) => ?_)) <;> replace hb := xnC hb <;> (try first | exact xfC | exact bff hb (by assumption) | exact bff (by assumption) hb)) | ((fail_if_success (with_reducible first | refine xgon ?_ | intro _)); (conv => whnf); (fail_if_success (fail_if_success (with_reducible first | refine xstp ?_ | refine xgon ?_ | intro _)))))
    have hpl := rp_ms (l := heldL rF i D) (ac := 0) (m := i) (bt := 150 + 50 * (j : Int) + 50) (at' := 150 + 50 * (j : Int)) (rq := msI b i) (.inl (by omega)) (ms_srt b i)
    have hpp := rp_msP (ac := 0) (m := i) (bt := 150 + 50 * (j : Int) + 50) (at' := 150 + 50 * (j : Int)) (rq := msI b i) (.inl (by omega))
    refine cH18oS2 (σ := [.whole 1, .whole 2, .whole 3, .whole 4, .whole 5, .whole 9]) (nl := []) (cpollW 7 50 (rQ D) (oneW (heldL rF i D) i (rP 0 i (msI b i) (150 + 50 * (j : Int) + 50))) c4 cf5 (150 + 50 * (j : Int)) (oneW_ok _ _ _) (show 1 ≤ 12 by decide) (r_hl (by omega)) ⟨show (0 : Int) ≤ i by omega, show (i : Int) ≤ 1000000 by omega⟩ (oneW_D (rP_ok (by omega) (by omega) (by omega) (by omega))) (by decide) (held_t rF_nice) ⟨Int.le_refl 0, show (0 : Int) ≤ 1099511627776 by decide⟩) ?_ (hle := by (repeat' first | refine And.intro ?_ ?_ | exact xeC | fail) <;> exact xmC)
    rw [(r_po hat).1, (r_po hat).2, hpl, hpp]
    obtain ⟨LM, hM1, hM2, hMe⟩ := ms_is (D := D) (rP 0 i (msI b i) (150 + 50 * (j : Int) + 50)) (150 + 50 * (j : Int)) hmem (by omega)
    rw [← hMe]
    rintro v h' ⟨c6, cf6, co6, rfl, rfl⟩ hcaps
    refine rH18oS1 ?_
    repeat' (first | (fail_if_success (with_reducible refine xstp ?_)); first | ((with_reducible refine And.intro (fun (hb : _ = true) => ?_) (fun (hb : _ = false) => ?_)) <;> replace hb := xnC hb <;> (try first | exact xfC | exact bff hb (by assumption) | exact bff (by assumption) hb)) | ((fail_if_success (with_reducible first | refine xgon ?_ | intro _)); (conv => whnf); (fail_if_success (fail_if_success (with_reducible first | refine xstp ?_ | refine xgon ?_ | intro _)))))
    refine LoopK.mk' {t : Nat // t ≤ (msI b i).length}
      (fun ⟨t, _⟩ => ⟨[(0, .c (.i .u8 a)), (1, .c (.i .u8 i)), (2, .c (.sl 0 0 1 0 lost.length cl)), (8, .c (.p 1 0 0)), (13, .c (.i .i64 (150 + 50 * (j : Int)))), (14, .c (.i .i64 j)), (17, .c (.sl 9 0 11 0 LM.length co6)), (18, .c (.p 7 0 0)), (21, .c (.i .i64 t))], wR lost cl D (oneW (heldL rF i D) i (rP 0 i [] (150 + 50 * (j : Int) + 50))) c6 cf6 ++ [.one (.cells true (encP (.sl 8 0 1 0 (msI b i).length cm) (rA 1 i (msI b i)))), .one (ints true (msI b i) cm), .one (pkR true LM co6)]⟩)
      (fun t => (msI b i).length - t.1)
      ⟨⟨0, Nat.zero_le _⟩, [0, 1, 2, 3, 10, 5, 11, 7, 8, 12], ?_⟩ ?_
    · (repeat' first | refine And.intro ?_ ?_ | exact xeC | fail)
      all_goals (exact xmC)
    rintro ⟨t, ht⟩
    rcases Nat.lt_or_ge t (msI b i).length with hlt | hge
    · have hMt := hM2 t hlt
      have hmt := hmem ((msI b i).getD t default) (by rw [getD_at hlt]; exact List.getElem_mem _)
      have e0 : 0 + ((t : Nat) : Int).toNat = t := by omega
      have hmt2 : 1 ≤ (msI b i).getD (0 + ((t : Nat) : Int).toNat) default ∧ (msI b i).getD (0 + ((t : Nat) : Int).toNat) default ≤ (i : Int) := by rw [e0]; exact hmt
      by_cases hh : (i : Int) - (msI b i).getD t default < D
      · obtain ⟨k1, k2, k3⟩ := hMt.1 hh
        repeat' (first | (fail_if_success (with_reducible refine xstp ?_)); first | ((with_reducible refine And.intro (fun (hb : _ = true) => ?_) (fun (hb : _ = false) => ?_)) <;> replace hb := xnC hb <;> (try first | exact xfC | exact bff hb (by assumption) | exact bff (by assumption) hb)) | ((with_reducible refine And.intro ?_ ?_); focus exact xoC) | (with_reducible intro hc; (try simp only [capsP, and_true] at hc); (try exact xfC)) | ((fail_if_success (with_reducible first | refine xgon ?_ | intro _)); (conv => whnf); (fail_if_success (fail_if_success (with_reducible first | refine xstp ?_ | refine xgon ?_ | intro _)))))
        · exfalso
          rw [decide_eq_true (by omega), k3] at hb
          exact absurd hb (by decide)
        · refine ⟨⟨t + 1, by omega⟩, [0, 1, 2, 3, 4, 5, 6, 7, 8, 9], by simp only; omega, ?_⟩
          (repeat' first | refine And.intro ?_ ?_ | exact xeC | fail)
          all_goals (exact xmC)
        all_goals (exfalso; omega)
      · obtain ⟨k1, k2, k3, k4⟩ := hMt.2 hh
        repeat' (first | (fail_if_success (with_reducible refine xstp ?_)); first | ((with_reducible refine And.intro (fun (hb : _ = true) => ?_) (fun (hb : _ = false) => ?_)) <;> replace hb := xnC hb <;> (try first | exact xfC | exact bff hb (by assumption) | exact bff (by assumption) hb)) | ((with_reducible refine And.intro ?_ ?_); focus exact xoC) | (with_reducible intro hc; (try simp only [capsP, and_true] at hc); (try exact xfC)) | ((fail_if_success (with_reducible first | refine xgon ?_ | intro _)); (conv => whnf); (fail_if_success (fail_if_success (with_reducible first | refine xstp ?_ | refine xgon ?_ | intro _)))))
        all_goals first | (exfalso; omega) | skip
        refine ⟨⟨t + 1, by omega⟩, [0, 1, 2, 3, 4, 5, 6, 7, 8, 9], by simp only; omega, ?_⟩
        (repeat' first | refine And.intro ?_ ?_ | exact xeC | fail)
        all_goals (exact xmC)
    · skip
      repeat' (first | (fail_if_success (with_reducible refine xstp ?_)); first | ((with_reducible refine And.intro (fun (hb : _ = true) => ?_) (fun (hb : _ = false) => ?_)) <;> replace hb := xnC hb <;> (try first | exact xfC | exact bff hb (by assumption) | exact bff (by assumption) hb)) | ((with_reducible refine And.intro ?_ ?_); focus exact xoC) | (with_reducible intro hc; (try simp only [capsP, and_true] at hc); (try exact xfC)) | ((fail_if_success (with_reducible first | refine xgon ?_ | intro _)); (conv => whnf); (fail_if_success (fail_if_success (with_reducible first | refine xstp ?_ | refine xgon ?_ | intro _)))))
      have ebt : 150 + 50 * (j : Int) + 50 = if 0 < i then 150 + 50 * ((j + 1 : Nat) : Int) else 0 := by rw [if_pos hk0]; omega
      rw [ebt]
      refine ⟨⟨⟨j + 1, by omega⟩, c6, cf6⟩, [0, 1, 2, 3, 4, 5, 6], by simp only; omega, ?_⟩
      (repeat' first | refine And.intro ?_ ?_ | exact xeC | fail)
      all_goals first | (exact xmC) | omega
  all_goals (
    have hat2 : atOk (100 + 50 * (j : Int) + 500) := ⟨by omega, by omega⟩
    have hchk1 : chk (rA ((k : Int) + 1) k []) = 0 := rA_chk ⟨by omega, by omega⟩ ⟨by omega, by omega⟩ (by decide) (fun x hx => by cases hx) List.Pairwise.nil
    generalize (if 0 < k then 150 + 50 * (j : Int) else 0) = bt at *
    have hak1 := ak_ok (l := heldL rF k D) (ac := 0) (se := k) (bt := bt) hchk1 (by omega) (fun x hx => by cases hx) List.Pairwise.nil
    have hmx : max (0 : Int) ((k : Int) + 1 - 1) = k := by omega
    rw [hwm]
    refine cH18oS2 (σ := [.whole 1, .name 2, .whole 3, .whole 5, .whole 6, .whole 7]) (nl := [.one (ints true noI 0)]) (cack 7 50 (rQ D) (oneW (heldL rF k D) k (rP 0 k [] bt)) cf (rA ((k : Int) + 1) k []) true 0 (100 + 50 * (j : Int)) (oneW_ok _ _ _) ⟨show (0 : Int) ≤ k by omega, show (k : Int) ≤ 1000000 by omega⟩ (Nat.zero_le _) (Nat.zero_le _) (oneW_D (Nat.zero_le _))) ?_ (hle := by (repeat' first | refine And.intro ?_ ?_ | exact xeC | fail) <;> exact xmC)
    rw [hak1.1, hak1.2, hmx]
    rintro v h' ⟨cf5, rfl, rfl⟩ hcaps
    refine rH18oS1 ?_
    repeat' (first | (fail_if_success (with_reducible refine xstp ?_)); first | ((with_reducible refine And.intro (fun (hb : _ = true) => ?_) (fun (hb : _ = false) => ?_)) <;> replace hb := xnC hb <;> (try first | exact xfC | exact bff hb (by assumption) | exact bff (by assumption) hb)) | ((fail_if_success (with_reducible first | refine xgon ?_ | intro _)); (conv => whnf); (fail_if_success (fail_if_success (with_reducible first | refine xstp ?_ | refine xgon ?_ | intro _)))))
    refine cH18oS2 (σ := [.whole 1, .name 2, .whole 3, .whole 5, .name 8]) (nl := []) (cnext 7 50 (rQ D) (oneW (heldL rF k D) k (rP k k [] bt)) cf5 (oneW_ok _ _ _)) ?_ (hle := by (repeat' first | refine And.intro ?_ ?_ | exact xeC | fail) <;> exact xmC)
    rintro v h' ⟨b, is, hnx, rfl, rfl⟩ hcaps
    obtain rfl := (nx_one hnx).2 (Int.le_refl _)
    refine rH18oS0 ?_
    repeat' (first | (fail_if_success (with_reducible refine xstp ?_)); first | ((with_reducible refine And.intro (fun (hb : _ = true) => ?_) (fun (hb : _ = false) => ?_)) <;> replace hb := xnC hb <;> (try first | exact xfC | exact bff hb (by assumption) | exact bff (by assumption) hb)) | ((with_reducible refine And.intro ?_ ?_); focus exact xoC) | ((fail_if_success (with_reducible first | refine xgon ?_ | intro _)); (conv => whnf); (fail_if_success (fail_if_success (with_reducible first | refine xstp ?_ | refine xgon ?_ | intro _)))))
    have hpl := rp_ms (l := heldL rF k D) (ac := k) (m := k) (bt := bt) (at' := 100 + 50 * (j : Int) + 500) (rq := []) (.inr (Int.le_refl _)) (by simp [srtI])
    have hpp := rp_msP (ac := k) (m := k) (bt := bt) (at' := 100 + 50 * (j : Int) + 500) (rq := []) (.inr (Int.le_refl _))
    refine cH18oS2 (σ := [.whole 1, .whole 2, .whole 3, .whole 4, .whole 5, .whole 8]) (nl := []) (cpollW 7 50 (rQ D) (oneW (heldL rF k D) k (rP k k [] bt)) c cf5 (100 + 50 * (j : Int) + 500) (oneW_ok _ _ _) (show 1 ≤ 12 by decide) (r_hl (by omega)) ⟨show (0 : Int) ≤ k by omega, show (k : Int) ≤ 1000000 by omega⟩ (oneW_D (rP_ok (by omega) (by omega) (Nat.zero_le _) (by omega))) (by decide) (held_t rF_nice) ⟨Int.le_refl 0, show (0 : Int) ≤ 1099511627776 by decide⟩) ?_ (hle := by (repeat' first | refine And.intro ?_ ?_ | exact xeC | fail) <;> exact xmC)
    rw [(r_po hat2).1, (r_po hat2).2, hpl, hpp, List.map_nil]
    rintro v h' ⟨c6, cf6, co6, rfl, rfl⟩ hcaps
    refine rH18oS1 ?_
    repeat' (first | (fail_if_success (with_reducible refine xstp ?_)); first | ((with_reducible refine And.intro (fun (hb : _ = true) => ?_) (fun (hb : _ = false) => ?_)) <;> replace hb := xnC hb <;> (try first | exact xfC | exact bff hb (by assumption) | exact bff (by assumption) hb)) | ((fail_if_success (with_reducible first | refine xgon ?_ | intro _)); (conv => whnf); (fail_if_success (fail_if_success (with_reducible first | refine xstp ?_ | refine xgon ?_ | intro _)))))
    refine cH18oS2 (σ := [.whole 1, .name 2, .whole 3, .whole 5, .name 10]) (nl := []) (cacked 7 50 k (rQ D) (oneW (heldL rF k D) k (rP k k [] bt)) cf6 3 (oneW_ok _ _ _)) ?_ (hle := by (repeat' first | refine And.intro ?_ ?_ | exact xeC | fail) <;> exact xmC)
    rintro v h' ⟨rfl, rfl⟩ hcaps
    rw [show (oneW (heldL rF k D) k (rP k k [] bt)).acked 3 = (k : Int) from rfl]
    refine rH18oS0 ?_
    repeat' (first | (fail_if_success (with_reducible refine xstp ?_)); first | ((with_reducible refine And.intro (fun (hb : _ = true) => ?_) (fun (hb : _ = false) => ?_)) <;> replace hb := xnC hb <;> (try first | exact xfC | exact bff hb (by assumption) | exact bff (by assumption) hb)) | ((fail_if_success (with_reducible first | refine xgon ?_ | intro _)); (conv => whnf); (fail_if_success (fail_if_success (with_reducible first | refine xstp ?_ | refine xgon ?_ | intro _)))))
    skip)
  · refine cH18oS2 (σ := []) (nl := []) (cawake) ?_
    rintro v h' ⟨rfl, rfl⟩ hcaps
    refine rH18oS0 ?_
    repeat' (first | (fail_if_success (with_reducible refine xstp ?_)); first | ((with_reducible refine And.intro (fun (hb : _ = true) => ?_) (fun (hb : _ = false) => ?_)) <;> replace hb := xnC hb <;> (try first | exact xfC | exact bff hb (by assumption) | exact bff (by assumption) hb | (exfalso; simp only [List.length_nil] at hb; omega) | (exfalso; revert hb; decide) | (exfalso; simp at hb; done))) | (with_reducible refine Both.mk ?_ ?_) | ((with_reducible refine And.intro ?_ ?_); focus exact xoC) | ((with_reducible refine Or.inl ⟨?_, ?_, ?_⟩); (focus rfl); focus exact xaC) | ((with_reducible refine xwB ?_ ?_); focus exact xaC) | ((with_reducible refine xwC ?_ ?_); focus exact xaC) | ((with_reducible refine xwD ?_ ?_); focus exact xaC) | ((with_reducible refine xwE ?_ ?_); focus exact xaC) | (with_reducible intro hc; (try simp only [capsP, and_true] at hc); (try exact xfC)) | ((fail_if_success (with_reducible first | refine xgon ?_ | intro _)); (conv => whnf); (fail_if_success (fail_if_success (with_reducible first | refine xstp ?_ | refine Both.mk ?_ ?_ | refine xgon ?_ | intro _)))))
    refine FinK.mk ⟨[0], _, _, ⟨rfl, rfl⟩, ?_⟩; (repeat' first | refine And.intro ?_ ?_ | exact xeC | fail)
  · refine cH18oS2 (σ := []) (nl := []) (cawake) ?_
    rintro v h' ⟨rfl, rfl⟩ hcaps
    refine rH18oS0 ?_
    repeat' (first | (fail_if_success (with_reducible refine xstp ?_)); first | ((with_reducible refine And.intro (fun (hb : _ = true) => ?_) (fun (hb : _ = false) => ?_)) <;> replace hb := xnC hb <;> (try first | exact xfC | exact bff hb (by assumption) | exact bff (by assumption) hb | (exfalso; simp only [List.length_nil] at hb; omega) | (exfalso; revert hb; decide) | (exfalso; simp at hb; done))) | (with_reducible refine Both.mk ?_ ?_) | ((with_reducible refine And.intro ?_ ?_); focus exact xoC) | ((with_reducible refine Or.inl ⟨?_, ?_, ?_⟩); (focus rfl); focus exact xaC) | ((with_reducible refine xwB ?_ ?_); focus exact xaC) | ((with_reducible refine xwC ?_ ?_); focus exact xaC) | ((with_reducible refine xwD ?_ ?_); focus exact xaC) | ((with_reducible refine xwE ?_ ?_); focus exact xaC) | (with_reducible intro hc; (try simp only [capsP, and_true] at hc); (try exact xfC)) | ((fail_if_success (with_reducible first | refine xgon ?_ | intro _)); (conv => whnf); (fail_if_success (fail_if_success (with_reducible first | refine xstp ?_ | refine Both.mk ?_ ?_ | refine xgon ?_ | intro _)))))
    refine FinK.mk ⟨[0], _, _, ⟨rfl, rfl⟩, ?_⟩; (repeat' first | refine And.intro ?_ ?_ | exact xeC | fail)
  have hk0 : 0 < k := by omega
  have hat2 : atOk (100 + 50 * (j : Int) + 500) := ⟨by omega, by omega⟩
  have hm1 : ∀ x ∈ [(1 : Int)], 1 ≤ x ∧ x ≤ (k : Int) := fun x hx => by
    rw [List.mem_singleton.1 hx]; omega
  have hchk2 : chk (rA 1 1 [1]) = 0 := rA_chk (by decide) (by decide) (by decide) (fun x hx => by rw [List.mem_singleton.1 hx]; decide) (List.pairwise_singleton _ _)
  have hak2 := ak_ok (l := heldL rF k D) (ac := k) (se := k) (bt := bt) hchk2 (by omega) hm1 (List.pairwise_singleton _ _)
  have hmx2 : max (k : Int) (1 - 1) = k := by omega
  refine cH18oS2 (σ := [.whole 1, .name 2, .whole 3, .whole 5, .whole 10, .whole 12]) (nl := []) (cack 7 50 (rQ D) (oneW (heldL rF k D) k (rP k k [] bt)) cf6 (rA 1 1 [1]) true 1 (100 + 50 * (j : Int)) (oneW_ok _ _ _) ⟨show (0 : Int) ≤ k by omega, show (k : Int) ≤ 1000000 by omega⟩ (Nat.zero_le _) (show 1 ≤ 1000000 by decide) (oneW_D (Nat.zero_le _))) ?_ (hle := by (repeat' first | refine And.intro ?_ ?_ | exact xeC | fail) <;> (first | exact xmC | rfl))
  rw [hak2.1, hak2.2, hmx2]
  rintro v h' ⟨cf7, rfl, rfl⟩ hcaps
  refine rH18oS1 ?_
  repeat' (first | (fail_if_success (with_reducible refine xstp ?_)); first | ((with_reducible refine And.intro (fun (hb : _ = true) => ?_) (fun (hb : _ = false) => ?_)) <;> replace hb := xnC hb <;> (try first | exact xfC | exact bff hb (by assumption) | exact bff (by assumption) hb)) | ((fail_if_success (with_reducible first | refine xgon ?_ | intro _)); (conv => whnf); (fail_if_success (fail_if_success (with_reducible first | refine xstp ?_ | refine xgon ?_ | intro _)))))
  refine cH18oS2 (σ := [.whole 1, .name 2, .whole 3, .whole 5, .name 13]) (nl := []) (cacked 7 50 k (rQ D) (oneW (heldL rF k D) k (rP k k [1] bt)) cf7 3 (oneW_ok _ _ _)) ?_ (hle := by (repeat' first | refine And.intro ?_ ?_ | exact xeC | fail) <;> exact xmC)
  rintro v h' ⟨rfl, rfl⟩ hcaps
  rw [show (oneW (heldL rF k D) k (rP k k [1] bt)).acked 3 = (k : Int) from rfl]
  refine rH18oS0 ?_
  repeat' (first | (fail_if_success (with_reducible refine xstp ?_)); first | ((with_reducible refine And.intro (fun (hb : _ = true) => ?_) (fun (hb : _ = false) => ?_)) <;> replace hb := xnC hb <;> (try first | exact xfC | exact bff hb (by assumption) | exact bff (by assumption) hb)) | ((with_reducible refine And.intro ?_ ?_); focus exact xoC) | ((fail_if_success (with_reducible first | refine xgon ?_ | intro _)); (conv => whnf); (fail_if_success (fail_if_success (with_reducible first | refine xstp ?_ | refine xgon ?_ | intro _)))))
  have hpl := rp_ms (l := heldL rF k D) (ac := k) (m := k) (bt := bt) (at' := 100 + 50 * (j : Int) + 500) (rq := [1]) (.inr (Int.le_refl _)) (by simp [srtI])
  have hpp := rp_msP (ac := k) (m := k) (bt := bt) (at' := 100 + 50 * (j : Int) + 500) (rq := [1]) (.inr (Int.le_refl _))
  refine cH18oS2 (σ := [.whole 1, .whole 2, .whole 3, .whole 9, .whole 5, .whole 13]) (nl := []) (cpollW 7 50 (rQ D) (oneW (heldL rF k D) k (rP k k [1] bt)) c6 cf7 (100 + 50 * (j : Int) + 500) (oneW_ok _ _ _) (show 1 ≤ 12 by decide) (r_hl (by omega)) ⟨show (0 : Int) ≤ k by omega, show (k : Int) ≤ 1000000 by omega⟩ (oneW_D (rP_ok (by omega) (by omega) (show 1 ≤ 1000 by decide) (by omega))) (by decide) (held_t rF_nice) ⟨Int.le_refl 0, show (0 : Int) ≤ 1099511627776 by decide⟩) ?_ (hle := by (repeat' first | refine And.intro ?_ ?_ | exact xeC | fail) <;> exact xmC)
  rw [(r_po hat2).1, (r_po hat2).2, hpl, hpp]
  obtain ⟨LM, hM1, hM2, hMe⟩ := ms_is (D := D) (rP k k [1] bt) (100 + 50 * (j : Int) + 500) hm1 (by omega)
  rw [← hMe]
  rintro v h' ⟨c8, cf8, co8, rfl, rfl⟩ hcaps
  have hM3 : ((k : Int) - 1 < D → (LM.getD (Int.toNat 0) default).k = 1 ∧ (LM.getD (Int.toNat 0) default).q = 1 ∧ (LM.getD (Int.toNat 0) default).p = [120]) ∧ (¬ (k : Int) - 1 < D → (LM.getD (Int.toNat 0) default).k = 4 ∧ (LM.getD (Int.toNat 0) default).q = 1 ∧ (LM.getD (Int.toNat 0) default).f = 1 ∧ (LM.getD (Int.toNat 0) default).la = 1) := hM2 0 (by decide)
  have hM4 : LM.length = 1 := hM1
  refine rH18oS1 ?_
  by_cases hh : (k : Int) - 1 < D
  · obtain ⟨k1, k2, k3⟩ := hM3.1 hh
    repeat' (first | (fail_if_success (with_reducible refine xstp ?_)); first | ((with_reducible refine And.intro (fun (hb : _ = true) => ?_) (fun (hb : _ = false) => ?_)) <;> replace hb := xnC hb <;> (try first | exact xfC | exact bff hb (by assumption) | exact bff (by assumption) hb)) | ((with_reducible refine And.intro ?_ ?_); focus exact xoC) | ((fail_if_success (with_reducible first | refine xgon ?_ | intro _)); (conv => whnf); (fail_if_success (fail_if_success (with_reducible first | refine xstp ?_ | refine xgon ?_ | intro _)))))
    all_goals first | (exfalso; omega) | skip
    all_goals (
      refine cH18oS2 (σ := []) (nl := []) (cawake) ?_
      rintro v h' ⟨rfl, rfl⟩ hcaps
      refine rH18oS0 ?_
      repeat' (first | (fail_if_success (with_reducible refine xstp ?_)); first | ((with_reducible refine And.intro (fun (hb : _ = true) => ?_) (fun (hb : _ = false) => ?_)) <;> replace hb := xnC hb <;> (try first | exact xfC | exact bff hb (by assumption) | exact bff (by assumption) hb | (exfalso; simp only [List.length_nil] at hb; omega) | (exfalso; revert hb; decide) | (exfalso; simp at hb; done))) | (with_reducible refine Both.mk ?_ ?_) | ((with_reducible refine And.intro ?_ ?_); focus exact xoC) | ((with_reducible refine Or.inl ⟨?_, ?_, ?_⟩); (focus rfl); focus exact xaC) | ((with_reducible refine xwB ?_ ?_); focus exact xaC) | ((with_reducible refine xwC ?_ ?_); focus exact xaC) | ((with_reducible refine xwD ?_ ?_); focus exact xaC) | ((with_reducible refine xwE ?_ ?_); focus exact xaC) | (with_reducible intro hc; (try simp only [capsP, and_true] at hc); (try exact xfC)) | ((fail_if_success (with_reducible first | refine xgon ?_ | intro _)); (conv => whnf); (fail_if_success (fail_if_success (with_reducible first | refine xstp ?_ | refine Both.mk ?_ ?_ | refine xgon ?_ | intro _)))))
      refine FinK.mk ⟨[0], _, _, ⟨rfl, rfl⟩, ?_⟩; (repeat' first | refine And.intro ?_ ?_ | exact xeC | fail))
  · obtain ⟨k1, k2, k3, k4⟩ := hM3.2 hh
    repeat' (first | (fail_if_success (with_reducible refine xstp ?_)); first | ((with_reducible refine And.intro (fun (hb : _ = true) => ?_) (fun (hb : _ = false) => ?_)) <;> replace hb := xnC hb <;> (try first | exact xfC | exact bff hb (by assumption) | exact bff (by assumption) hb)) | ((with_reducible refine And.intro ?_ ?_); focus exact xoC) | ((fail_if_success (with_reducible first | refine xgon ?_ | intro _)); (conv => whnf); (fail_if_success (fail_if_success (with_reducible first | refine xstp ?_ | refine xgon ?_ | intro _)))))
    all_goals first | (exfalso; omega) | skip
    all_goals (
      refine cH18oS2 (σ := []) (nl := []) (cawake) ?_
      rintro v h' ⟨rfl, rfl⟩ hcaps
      refine rH18oS0 ?_
      repeat' (first | (fail_if_success (with_reducible refine xstp ?_)); first | ((with_reducible refine And.intro (fun (hb : _ = true) => ?_) (fun (hb : _ = false) => ?_)) <;> replace hb := xnC hb <;> (try first | exact xfC | exact bff hb (by assumption) | exact bff (by assumption) hb | (exfalso; simp only [List.length_nil] at hb; omega) | (exfalso; revert hb; decide) | (exfalso; simp at hb; done))) | (with_reducible refine Both.mk ?_ ?_) | ((with_reducible refine And.intro ?_ ?_); focus exact xoC) | ((with_reducible refine Or.inl ⟨?_, ?_, ?_⟩); (focus rfl); focus exact xaC) | ((with_reducible refine xwB ?_ ?_); focus exact xaC) | ((with_reducible refine xwC ?_ ?_); focus exact xaC) | ((with_reducible refine xwD ?_ ?_); focus exact xaC) | ((with_reducible refine xwE ?_ ?_); focus exact xaC) | (with_reducible intro hc; (try simp only [capsP, and_true] at hc); (try exact xfC)) | ((fail_if_success (with_reducible first | refine xgon ?_ | intro _)); (conv => whnf); (fail_if_success (fail_if_success (with_reducible first | refine xstp ?_ | refine Both.mk ?_ ?_ | refine xgon ?_ | intro _)))))
      refine FinK.mk ⟨[0], _, _, ⟨rfl, rfl⟩, ?_⟩; (repeat' first | refine And.intro ?_ ?_ | exact xeC | fail))
end Go.Proofs.Ytofcadbfjbefkaa


namespace Go.Proofs.Ytofcadbfjbefkaa
open Go.X Go.RowKit
set_option linter.unusedVariables false
theorem one_readR {β : Nm} {W : World} {ck : Ck} (h : ck.holds β W (β 0 0)) (ho : ck.owned = false) : Fits β [.one ck] W ∧ ∀ f x, (Go.X.get [.one ck] f x).owned = false := by
  have hno := get_ones_own (h := [ck]) (by intro q hq; rw [List.mem_singleton.1 hq]; exact ho)
  exact ⟨fits_read (get_ones (h := [ck]) (fun f q hf => by
    match f, hf with
    | 0, hf => cases hf; exact h
    | f + 1, hf => simp at hf)) hno, hno⟩
theorem ft_u32 {l : List C} (h : FT [.i .u32] l) : ∃ x : Int, l = [C.i .u32 x] ∧ (0 ≤ x ∧ x ≤ 4294967295) := by
  obtain ⟨a, _, rfl, ha, h1⟩ := FT_i h
  obtain rfl := FT_nil h1
  exact ⟨a, rfl, ha⟩
theorem walk_WriterRepeats (W : World) (a0 : Int) (w0 : (Lit.int .u8 a0).wf = true) (a1 : Int) (w1 : (Lit.int .u8 a1).wf = true) (v2 : Value) (k2 : VK W (.sl [.i .u32]) v2) (e2 : ∀ a n c, v2 = .slice (some a) n c → a.spot = none) :
    Calls Try.prog 4 #[.int .u8 a0, .int .u8 a1, v2] W fun e W' => e = .returned (.bool true) ∧ Below W.heap.size W W' := by
  obtain ⟨A, n, c, g, hv, hh, hn, hc, hnc, hg⟩ := row_view (by rfl) k2 e2
  obtain ⟨Q, hl, hge, hp⟩ := list_of (fun x : Int => [C.i .u32 x]) (Pr := fun x => 0 ≤ x ∧ x ≤ 4294967295) (fun i hi => ft_u32 (hg i hi))
  subst hl
  obtain ⟨hf, hno⟩ := one_readR (β := nmL [A]) (W := W) (ck := .row false false 45 1 Q.length c (Go.X.rowOf (fun x => [.i .u32 x]) Q)) (holds_row_congr (hh _ _) hge) rfl
  have hv' : C.ren (nmL [A]) (C.sl 0 0 1 0 Q.length c) = v2 := hv (nmL [A]) 0 0 rfl
  have := glue ((crepeats a0 a1 (wf_bounds w0) (wf_bounds w1) Q c hp (by unfold maxLen at hn; omega)).mono' fun v h e => e.1) hf hno
  simp only [List.map_cons, List.map_nil, T.ren, hv', show C.ren (nmL [A]) (.i .u8 a0) = .int .u8 a0 from rfl, show C.ren (nmL [A]) (.i .u8 a1) = .int .u8 a1 from rfl] at this
  exact this
end Go.Proofs.Ytofcadbfjbefkaa

