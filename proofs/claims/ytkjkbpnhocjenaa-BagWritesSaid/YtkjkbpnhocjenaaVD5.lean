/- Part 5 of the texts that a walk of this program rests on: an abstract machine, its soundness, contracts of functions. No statement of the seat is proved in this file. -/
import Derived.Test.YtkjkbpnhocjenaaVD4
import Derived.Shelf.Slices.CompactS
import Derived.Lib.RowBridge
namespace Go.Proofs.Ytkjkbpnhocjenaa
open Go.X
set_option linter.unusedSimpArgs false
set_option linter.unusedVariables false
open P4
open P5
def hdB (p : List UInt8) (a b c d : Nat) : List UInt8 := p ++ venc a ++ venc b ++ venc c ++ venc d
theorem hdB_des (p : List UInt8) (a b c : Nat) (U : List Tl) : hdB p a b c U.length ++ tlB U = p ++ desB a b c U := by simp only [hdB, desB, List.append_assoc]
theorem hdB_len (p : List UInt8) (a b c d : Nat) : (hdB p a b c d).length ≤ p.length + 40 := by
  have h1 := venc_le a
  have h2 := venc_le b
  have h3 := venc_le c
  have h4 := venc_le d
  simp only [hdB, List.length_append]
  omega
theorem rH41bH0 {σ : List Sg} {H h' : List Fam} {v : T} {K : T → List Fam → Prop} {H' : List Fam} {v' : T} {N : Nat} (hk : K v' H') (hN : H.length = N := by (try simp only [↓List.length_cons, ↓List.length_nil, Nat.reduceAdd]) <;> rfl) (h : givesF σ N H σ h' = some H' := by (try simp (maxSteps := 1000000) only [givesF, setF, updF, Fam.zeroth, Fam.rk, Ck.rk, C.rk, E.rk, T.rk, key, List.map_cons, List.map_nil, List.cons_append, List.nil_append, List.length_cons, List.length_nil, Option.map_some, Option.bind_some, Nat.reduceAdd, Nat.zero_add, Nat.add_zero, Nat.add_sub_cancel_left, Int.toNat_natCast, reps, List.all_cons, List.all_nil, C.flat, List.append_eq, Bool.not_true, Bool.and_true, Bool.or_false, Bool.or_self, Bool.not_false, List.append_nil, Bool.and_self, ↓chG_rk]) <;> rfl) (hv : v.rk σ N = v' := by (try simp only [givesF, setF, updF, Fam.zeroth, Fam.rk, Ck.rk, C.rk, E.rk, T.rk, key, List.map_cons, List.map_nil, List.cons_append, List.nil_append, List.length_cons, List.length_nil, Option.map_some, Option.bind_some, Nat.reduceAdd, Nat.zero_add, Nat.add_zero, Nat.add_sub_cancel_left, Int.toNat_natCast, reps, List.all_cons, List.all_nil, C.flat, List.append_eq, Bool.not_true, Bool.and_true, Bool.or_false, Bool.or_self, Bool.not_false, List.append_nil, Bool.and_self, ↓chG_rk]) <;> rfl) : RetG σ H h' v K := ret_mk3 hN h hv hk
theorem cH41bH2 {P : Program} {F : Nat} {args : List T} {H : List Fam} {K : T → List Fam → Prop} {σ : List Sg} {nl : List Fam} {args0 : List T} {h0 : List Fam} {Q : T → List Fam → Prop} {H2 H1 : List Fam} {N n : Nat} (hc : Ctr P F args0 h0 Q) (hk : ∀ v h', Q v h' → capsP h' → RetG σ H2 h' v K) (hap : apart σ = true := by rfl) (hnl : nl.all nilB = true := by rfl) (h1 : H ++ nl = H1 := by first | exact List.append_nil _ | ((try simp only [List.cons_append, List.nil_append]) <;> rfl)) (hN : H1.length = N := by (try simp only [↓List.length_cons, ↓List.length_nil, Nat.reduceAdd]) <;> rfl) (hn : H.length = n := by (try simp only [↓List.length_cons, ↓List.length_nil, Nat.reduceAdd]) <;> rfl) (hH : givesF σ N H1 σ h0 = some H2 := by (try simp (maxSteps := 1000000) only [givesF, setF, updF, Fam.zeroth, Fam.rk, Ck.rk, C.rk, E.rk, T.rk, key, List.map_cons, List.map_nil, List.cons_append, List.nil_append, List.length_cons, List.length_nil, Option.map_some, Option.bind_some, Nat.reduceAdd, Nat.zero_add, Nat.add_zero, Nat.add_sub_cancel_left, Int.toNat_natCast, reps, List.all_cons, List.all_nil, C.flat, List.append_eq, Bool.not_true, Bool.and_true, Bool.or_false, Bool.or_self, Bool.not_false, List.append_nil, Bool.and_self, ↓chG_rk]) <;> rfl) (hle : leS n H1 σ N σ h0 (belsK N (h0.map (Fam.rk σ N)) (argsK n args (args0.map (T.rk σ N)) True)) := by repeat' first | refine And.intro ?_ ?_ | exact xeC | fail) : CallK P F args H K := CallK.mk3 hc hap hnl h1 hN hn hH hle hk
set_option maxRecDepth 10000 in
set_option maxHeartbeats 16000000 in
theorem cBag (X : List Ch) (c : Nat) (hX : XOk X) :
    Ctr Try.prog 44 [.c (.sl 0 0 1 0 X.length c)] [.one (rhR 1 X c), .many (chG X)]
      fun v h => v = .c (.s (mkS (bagB (ls X)))) ∧ h = [.one (rhR 1 X c), .many (chG X)] := by
  have hn := hX.n
  have z : ∀ l : List UInt8, (mkS l).size = l.length := fun _ => rfl
  have v1 := venc_le (Int.toNat 2)
  have v2 := venc_le X.length
  rw [← z] at v1 v2
  refine Ctr.mk' tbv mixed Try.func44 rfl rfl rfl (fun _ _ => by kernel_rfl) (by kernel_rfl) (by rfl) (by rfl) (by (repeat' first | refine And.intro ?_ ?_ | exact xeC | fail) <;> (exact xmC)) ?_
  repeat' (first | (fail_if_success (with_reducible refine xstp ?_)); first | ((with_reducible refine And.intro (fun (hb : _ = true) => ?_) (fun (hb : _ = false) => ?_)) <;> replace hb := xnC hb <;> (try first | exact xfC | exact bff hb (by assumption) | exact bff (by assumption) hb)) | (with_reducible refine Both.mk ?_ ?_) | ((with_reducible refine And.intro ?_ ?_); focus exact xoC) | ((with_reducible refine Or.inl ⟨?_, ?_, ?_⟩); (focus rfl); focus exact xaC) | ((with_reducible refine xwB ?_ ?_); focus exact xaC) | ((with_reducible refine xwC ?_ ?_); focus exact xaC) | ((with_reducible refine xwD ?_ ?_); focus exact xaC) | ((with_reducible refine xwE ?_ ?_); focus exact xaC) | (with_reducible intro hc; (try simp only [capsP, and_true] at hc); (try exact xfC)) | ((fail_if_success (with_reducible first | refine xgon ?_ | intro _)); (conv => whnf); (fail_if_success (fail_if_success (with_reducible first | refine xstp ?_ | refine Both.mk ?_ ?_ | refine xgon ?_ | intro _)))))
  refine cH41bH2 (σ := []) (nl := []) (ccount 2 (by omega)) ?_
  rintro v h' ⟨rfl, rfl⟩ hcaps
  refine rH41bH0 ?_
  repeat' (first | (fail_if_success (with_reducible refine xstp ?_)); first | ((with_reducible refine And.intro (fun (hb : _ = true) => ?_) (fun (hb : _ = false) => ?_)) <;> replace hb := xnC hb <;> (try first | exact xfC | exact bff hb (by assumption) | exact bff (by assumption) hb)) | (with_reducible refine Both.mk ?_ ?_) | ((with_reducible refine And.intro ?_ ?_); focus exact xoC) | ((with_reducible refine Or.inl ⟨?_, ?_, ?_⟩); (focus rfl); focus exact xaC) | ((with_reducible refine xwB ?_ ?_); focus exact xaC) | ((with_reducible refine xwC ?_ ?_); focus exact xaC) | ((with_reducible refine xwD ?_ ?_); focus exact xaC) | ((with_reducible refine xwE ?_ ?_); focus exact xaC) | (with_reducible intro hc; (try simp only [capsP, and_true] at hc); (try exact xfC)) | ((fail_if_success (with_reducible first | refine xgon ?_ | intro _)); (conv => whnf); (fail_if_success (fail_if_success (with_reducible first | refine xstp ?_ | refine Both.mk ?_ ?_ | refine xgon ?_ | intro _)))))
  refine cH41bH2 (σ := []) (nl := []) (ccount (X.length : Nat) (by omega)) ?_
  rintro v h' ⟨rfl, rfl⟩ hcaps
  refine rH41bH0 ?_
  repeat' (first | (fail_if_success (with_reducible refine xstp ?_)); first | ((with_reducible refine And.intro (fun (hb : _ = true) => ?_) (fun (hb : _ = false) => ?_)) <;> replace hb := xnC hb <;> (try first | exact xfC | exact bff hb (by assumption) | exact bff (by assumption) hb)) | (with_reducible refine Both.mk ?_ ?_) | ((with_reducible refine And.intro ?_ ?_); focus exact xoC) | ((with_reducible refine Or.inl ⟨?_, ?_, ?_⟩); (focus rfl); focus exact xaC) | ((with_reducible refine xwB ?_ ?_); focus exact xaC) | ((with_reducible refine xwC ?_ ?_); focus exact xaC) | ((with_reducible refine xwD ?_ ?_); focus exact xaC) | ((with_reducible refine xwE ?_ ?_); focus exact xaC) | (with_reducible intro hc; (try simp only [capsP, and_true] at hc); (try exact xfC)) | ((fail_if_success (with_reducible first | refine xgon ?_ | intro _)); (conv => whnf); (fail_if_success (fail_if_success (with_reducible first | refine xstp ?_ | refine Both.mk ?_ ?_ | refine xgon ?_ | intro _)))))
  rw [mkS_append]
  refine LoopK.mk' {i : Nat // i ≤ X.length}
    (fun ⟨i, _⟩ => ⟨[(0, .c (.sl 0 0 1 0 X.length c)), (3, .c (.s (mkS (outB ((ls X).take i))))), (4, .c (.s (mkS (inB X.length ((ls X).take i))))), (5, .c (.i .i64 (i : Nat)))], [.one (rhR 1 X c), .many (chG X)]⟩) (fun k => X.length - k.1)
    ⟨⟨0, Nat.zero_le _⟩, [0, 1], ?_⟩ ?_
  · (repeat' first | refine And.intro ?_ ?_ | exact xeC | fail)
    all_goals first
      | (exact xmC)
      | (simp [inB, idxB]; done)
      | skip
  rintro ⟨i, hi⟩
  have ho := outB_len (take_ok hX i)
  have hii := inB_len (n := X.length) (take_ok hX i)
  have hlt2 : ((ls X).take i).length = i := by rw [List.length_take, List.length_map]; omega
  rw [hlt2] at ho hii
  rw [← z] at ho hii
  rcases Nat.lt_or_ge i X.length with hlt | hge
  · have e2 : 0 + ((i : Nat) : Int).toNat = i := by omega
    have hxi := hX.at hlt
    have hcl := conB_len hxi.2.2
    have hts : (ls X).take (i + 1) = (ls X).take i ++ [(X.getD i default).l] := by rw [take_snocG (ls X) (by rw [List.length_map]; exact hlt), getLs]
    generalize hxl : X.getD i default = x at *
    have hat : ∀ k, k < x.l.length → 0 ≤ (x.l.getD k default).at_ ∧ (x.l.getD k default).at_ ≤ 9223372036854775807 := fun k hk => by
      have := (hxi.2.2 (x.l.getD k default) (by rw [getD_at hk]; exact List.getElem_mem _)).2.1
      omega
    have hix : ixG chC X i = rcR true x.l x.cap := by rw [ixG_at hlt, hxl]; rfl
    have e0 : 0 + Int.toNat 0 = 0 := rfl
    have e3 : 0 + ((x.l.length : Int) - 1).toNat = x.l.length - 1 := by omega
    repeat' (first | (fail_if_success (with_reducible refine xstp ?_)); first | ((with_reducible refine And.intro (fun (hb : _ = true) => ?_) (fun (hb : _ = false) => ?_)) <;> replace hb := xnC hb <;> (try first | exact xfC | exact bff hb (by assumption) | exact bff (by assumption) hb)) | (with_reducible refine Both.mk ?_ ?_) | ((with_reducible refine And.intro ?_ ?_); focus exact xoC) | ((with_reducible refine Or.inl ⟨?_, ?_, ?_⟩); (focus rfl); focus exact xaC) | ((with_reducible refine xwB ?_ ?_); focus exact xaC) | ((with_reducible refine xwC ?_ ?_); focus exact xaC) | ((with_reducible refine xwD ?_ ?_); focus exact xaC) | ((with_reducible refine xwE ?_ ?_); focus exact xaC) | (with_reducible intro hc; (try simp only [capsP, and_true] at hc); (try exact xfC)) | ((fail_if_success (with_reducible first | refine xgon ?_ | intro _)); (conv => whnf); (fail_if_success (fail_if_success (with_reducible first | refine xstp ?_ | refine Both.mk ?_ ?_ | refine xgon ?_ | intro _)))))
    rw [e2, hxl]
    repeat (
      refine ManyK.mk ⟨rcR true x.l x.cap, hix, ?_⟩
      repeat' (first | (fail_if_success (with_reducible refine xstp ?_)); first | ((with_reducible refine And.intro (fun (hb : _ = true) => ?_) (fun (hb : _ = false) => ?_)) <;> replace hb := xnC hb <;> (try first | exact xfC | exact bff hb (by assumption) | exact bff (by assumption) hb)) | (with_reducible refine Both.mk ?_ ?_) | ((with_reducible refine And.intro ?_ ?_); focus exact xoC) | ((with_reducible refine Or.inl ⟨?_, ?_, ?_⟩); (focus rfl); focus exact xaC) | ((with_reducible refine xwB ?_ ?_); focus exact xaC) | ((with_reducible refine xwC ?_ ?_); focus exact xaC) | ((with_reducible refine xwD ?_ ?_); focus exact xaC) | ((with_reducible refine xwE ?_ ?_); focus exact xaC) | (with_reducible intro hc; (try simp only [capsP, and_true] at hc); (try exact xfC)) | ((fail_if_success (with_reducible first | refine xgon ?_ | intro _)); (conv => whnf); (fail_if_success (fail_if_success (with_reducible first | refine xstp ?_ | refine Both.mk ?_ ?_ | refine xgon ?_ | intro _)))))
      )
    refine cH41bH2 (σ := []) (nl := []) (ccount ((mkS (outB ((ls X).take i))).size : Nat) (by omega)) ?_ (hle := by (repeat' first | refine And.intro ?_ ?_ | exact xeC | fail) <;> (exact xmC))
    rintro v h' ⟨rfl, rfl⟩ hcaps
    refine rH41bH0 ?_
    have w1 := venc_le (mkS (outB ((ls X).take i))).size
    have w2 := venc_le (x.l.getD 0 default).at_.toNat
    have w3 := venc_le (x.l.getD (x.l.length - 1) default).at_.toNat
    rw [← z] at w1 w2 w3
    repeat' (first | (fail_if_success (with_reducible refine xstp ?_)); first | ((with_reducible refine And.intro (fun (hb : _ = true) => ?_) (fun (hb : _ = false) => ?_)) <;> replace hb := xnC hb <;> (try first | exact xfC | exact bff hb (by assumption) | exact bff (by assumption) hb)) | (with_reducible refine Both.mk ?_ ?_) | ((with_reducible refine And.intro ?_ ?_); focus exact xoC) | ((with_reducible refine Or.inl ⟨?_, ?_, ?_⟩); (focus rfl); focus exact xaC) | ((with_reducible refine xwB ?_ ?_); focus exact xaC) | ((with_reducible refine xwC ?_ ?_); focus exact xaC) | ((with_reducible refine xwD ?_ ?_); focus exact xaC) | ((with_reducible refine xwE ?_ ?_); focus exact xaC) | (with_reducible intro hc; (try simp only [capsP, and_true] at hc); (try exact xfC)) | ((fail_if_success (with_reducible first | refine xgon ?_ | intro _)); (conv => whnf); (fail_if_success (fail_if_success (with_reducible first | refine xstp ?_ | refine Both.mk ?_ ?_ | refine xgon ?_ | intro _)))))
    repeat (
      refine ManyK.mk ⟨rcR true x.l x.cap, hix, ?_⟩
      repeat' (first | (fail_if_success (with_reducible refine xstp ?_)); first | ((with_reducible refine And.intro (fun (hb : _ = true) => ?_) (fun (hb : _ = false) => ?_)) <;> replace hb := xnC hb <;> (try first | exact xfC | exact bff hb (by assumption) | exact bff (by assumption) hb)) | (with_reducible refine Both.mk ?_ ?_) | ((with_reducible refine And.intro ?_ ?_); focus exact xoC) | ((with_reducible refine Or.inl ⟨?_, ?_, ?_⟩); (focus rfl); focus exact xaC) | ((with_reducible refine xwB ?_ ?_); focus exact xaC) | ((with_reducible refine xwC ?_ ?_); focus exact xaC) | ((with_reducible refine xwD ?_ ?_); focus exact xaC) | ((with_reducible refine xwE ?_ ?_); focus exact xaC) | (with_reducible intro hc; (try simp only [capsP, and_true] at hc); (try exact xfC)) | ((fail_if_success (with_reducible first | refine xgon ?_ | intro _)); (conv => whnf); (fail_if_success (fail_if_success (with_reducible first | refine xstp ?_ | refine Both.mk ?_ ?_ | refine xgon ?_ | intro _)))))
      )
    rw [mkS_append]
    rw [e0]
    refine cH41bH2 (σ := []) (nl := []) (ccount (x.l.getD 0 default).at_ (hat _ hxi.1)) ?_ (hle := by (repeat' first | refine And.intro ?_ ?_ | exact xeC | fail) <;> (exact xmC))
    rintro v h' ⟨rfl, rfl⟩ hcaps
    refine rH41bH0 ?_
    have s1 : (mkS (inB X.length ((ls X).take i) ++ venc (mkS (outB ((ls X).take i))).size)).size = (mkS (inB X.length ((ls X).take i))).size + (mkS (venc (mkS (outB ((ls X).take i))).size)).size := by simp only [z, List.length_append]
    repeat' (first | (fail_if_success (with_reducible refine xstp ?_)); first | ((with_reducible refine And.intro (fun (hb : _ = true) => ?_) (fun (hb : _ = false) => ?_)) <;> replace hb := xnC hb <;> (try first | exact xfC | exact bff hb (by assumption) | exact bff (by assumption) hb)) | (with_reducible refine Both.mk ?_ ?_) | ((with_reducible refine And.intro ?_ ?_); focus exact xoC) | ((with_reducible refine Or.inl ⟨?_, ?_, ?_⟩); (focus rfl); focus exact xaC) | ((with_reducible refine xwB ?_ ?_); focus exact xaC) | ((with_reducible refine xwC ?_ ?_); focus exact xaC) | ((with_reducible refine xwD ?_ ?_); focus exact xaC) | ((with_reducible refine xwE ?_ ?_); focus exact xaC) | (with_reducible intro hc; (try simp only [capsP, and_true] at hc); (try exact xfC)) | ((fail_if_success (with_reducible first | refine xgon ?_ | intro _)); (conv => whnf); (fail_if_success (fail_if_success (with_reducible first | refine xstp ?_ | refine Both.mk ?_ ?_ | refine xgon ?_ | intro _)))))
    repeat (
      refine ManyK.mk ⟨rcR true x.l x.cap, hix, ?_⟩
      repeat' (first | (fail_if_success (with_reducible refine xstp ?_)); first | ((with_reducible refine And.intro (fun (hb : _ = true) => ?_) (fun (hb : _ = false) => ?_)) <;> replace hb := xnC hb <;> (try first | exact xfC | exact bff hb (by assumption) | exact bff (by assumption) hb)) | (with_reducible refine Both.mk ?_ ?_) | ((with_reducible refine And.intro ?_ ?_); focus exact xoC) | ((with_reducible refine Or.inl ⟨?_, ?_, ?_⟩); (focus rfl); focus exact xaC) | ((with_reducible refine xwB ?_ ?_); focus exact xaC) | ((with_reducible refine xwC ?_ ?_); focus exact xaC) | ((with_reducible refine xwD ?_ ?_); focus exact xaC) | ((with_reducible refine xwE ?_ ?_); focus exact xaC) | (with_reducible intro hc; (try simp only [capsP, and_true] at hc); (try exact xfC)) | ((fail_if_success (with_reducible first | refine xgon ?_ | intro _)); (conv => whnf); (fail_if_success (fail_if_success (with_reducible first | refine xstp ?_ | refine Both.mk ?_ ?_ | refine xgon ?_ | intro _)))))
      )
    rw [mkS_append]
    rw [e3]
    refine cH41bH2 (σ := []) (nl := []) (ccount (x.l.getD (x.l.length - 1) default).at_ (hat _ (by omega))) ?_ (hle := by (repeat' first | refine And.intro ?_ ?_ | exact xeC | fail) <;> (exact xmC))
    rintro v h' ⟨rfl, rfl⟩ hcaps
    refine rH41bH0 ?_
    have s2 : (mkS (inB X.length ((ls X).take i) ++ venc (mkS (outB ((ls X).take i))).size ++ venc (x.l.getD 0 default).at_.toNat)).size = (mkS (inB X.length ((ls X).take i) ++ venc (mkS (outB ((ls X).take i))).size)).size + (mkS (venc (x.l.getD 0 default).at_.toNat)).size := by simp only [z, List.length_append]
    repeat' (first | (fail_if_success (with_reducible refine xstp ?_)); first | ((with_reducible refine And.intro (fun (hb : _ = true) => ?_) (fun (hb : _ = false) => ?_)) <;> replace hb := xnC hb <;> (try first | exact xfC | exact bff hb (by assumption) | exact bff (by assumption) hb)) | (with_reducible refine Both.mk ?_ ?_) | ((with_reducible refine And.intro ?_ ?_); focus exact xoC) | ((with_reducible refine Or.inl ⟨?_, ?_, ?_⟩); (focus rfl); focus exact xaC) | ((with_reducible refine xwB ?_ ?_); focus exact xaC) | ((with_reducible refine xwC ?_ ?_); focus exact xaC) | ((with_reducible refine xwD ?_ ?_); focus exact xaC) | ((with_reducible refine xwE ?_ ?_); focus exact xaC) | (with_reducible intro hc; (try simp only [capsP, and_true] at hc); (try exact xfC)) | ((fail_if_success (with_reducible first | refine xgon ?_ | intro _)); (conv => whnf); (fail_if_success (fail_if_success (with_reducible first | refine xstp ?_ | refine Both.mk ?_ ?_ | refine xgon ?_ | intro _)))))
    repeat (
      refine ManyK.mk ⟨rcR true x.l x.cap, hix, ?_⟩
      repeat' (first | (fail_if_success (with_reducible refine xstp ?_)); first | ((with_reducible refine And.intro (fun (hb : _ = true) => ?_) (fun (hb : _ = false) => ?_)) <;> replace hb := xnC hb <;> (try first | exact xfC | exact bff hb (by assumption) | exact bff (by assumption) hb)) | (with_reducible refine Both.mk ?_ ?_) | ((with_reducible refine And.intro ?_ ?_); focus exact xoC) | ((with_reducible refine Or.inl ⟨?_, ?_, ?_⟩); (focus rfl); focus exact xaC) | ((with_reducible refine xwB ?_ ?_); focus exact xaC) | ((with_reducible refine xwC ?_ ?_); focus exact xaC) | ((with_reducible refine xwD ?_ ?_); focus exact xaC) | ((with_reducible refine xwE ?_ ?_); focus exact xaC) | (with_reducible intro hc; (try simp only [capsP, and_true] at hc); (try exact xfC)) | ((fail_if_success (with_reducible first | refine xgon ?_ | intro _)); (conv => whnf); (fail_if_success (fail_if_success (with_reducible first | refine xstp ?_ | refine Both.mk ?_ ?_ | refine xgon ?_ | intro _)))))
      )
    rw [mkS_append]
    refine cH41bH2 (σ := [.mem 1 i]) (nl := []) (ctallies true x.l x.cap (by omega)) ?_ (hle := by (repeat' first | refine And.intro ?_ ?_ | exact xeC | fail) <;> (first | (refine ManyK.mk ⟨_, hix, ?_⟩ <;> (repeat' first | refine And.intro ?_ ?_ | exact xeC | fail)) | (exact xmC)))
    rintro v h' ⟨c1, rfl, rfl⟩ hcaps
    refine rH41bH0 ?_
    have htl := tal_le x.l
    have w4 := venc_le (tal x.l).length
    rw [← z] at w4
    have s3 : (mkS (inB X.length ((ls X).take i) ++ venc (mkS (outB ((ls X).take i))).size ++ venc (x.l.getD 0 default).at_.toNat ++ venc (x.l.getD (x.l.length - 1) default).at_.toNat)).size = (mkS (inB X.length ((ls X).take i) ++ venc (mkS (outB ((ls X).take i))).size ++ venc (x.l.getD 0 default).at_.toNat)).size + (mkS (venc (x.l.getD (x.l.length - 1) default).at_.toNat)).size := by simp only [z, List.length_append]
    repeat' (first | (fail_if_success (with_reducible refine xstp ?_)); first | ((with_reducible refine And.intro (fun (hb : _ = true) => ?_) (fun (hb : _ = false) => ?_)) <;> replace hb := xnC hb <;> (try first | exact xfC | exact bff hb (by assumption) | exact bff (by assumption) hb)) | (with_reducible refine Both.mk ?_ ?_) | ((with_reducible refine And.intro ?_ ?_); focus exact xoC) | ((with_reducible refine Or.inl ⟨?_, ?_, ?_⟩); (focus rfl); focus exact xaC) | ((with_reducible refine xwB ?_ ?_); focus exact xaC) | ((with_reducible refine xwC ?_ ?_); focus exact xaC) | ((with_reducible refine xwD ?_ ?_); focus exact xaC) | ((with_reducible refine xwE ?_ ?_); focus exact xaC) | (with_reducible intro hc; (try simp only [capsP, and_true] at hc); (try exact xfC)) | ((fail_if_success (with_reducible first | refine xgon ?_ | intro _)); (conv => whnf); (fail_if_success (fail_if_success (with_reducible first | refine xstp ?_ | refine Both.mk ?_ ?_ | refine xgon ?_ | intro _)))))
    refine cH41bH2 (σ := []) (nl := []) (ccount ((tal x.l).length : Nat) (by omega)) ?_ (hle := by (repeat' first | refine And.intro ?_ ?_ | exact xeC | fail) <;> (exact xmC))
    rintro v h' ⟨rfl, rfl⟩ hcaps
    refine rH41bH0 ?_
    repeat' (first | (fail_if_success (with_reducible refine xstp ?_)); first | ((with_reducible refine And.intro (fun (hb : _ = true) => ?_) (fun (hb : _ = false) => ?_)) <;> replace hb := xnC hb <;> (try first | exact xfC | exact bff hb (by assumption) | exact bff (by assumption) hb)) | (with_reducible refine Both.mk ?_ ?_) | ((with_reducible refine And.intro ?_ ?_); focus exact xoC) | ((with_reducible refine Or.inl ⟨?_, ?_, ?_⟩); (focus rfl); focus exact xaC) | ((with_reducible refine xwB ?_ ?_); focus exact xaC) | ((with_reducible refine xwC ?_ ?_); focus exact xaC) | ((with_reducible refine xwD ?_ ?_); focus exact xaC) | ((with_reducible refine xwE ?_ ?_); focus exact xaC) | (with_reducible intro hc; (try simp only [capsP, and_true] at hc); (try exact xfC)) | ((fail_if_success (with_reducible first | refine xgon ?_ | intro _)); (conv => whnf); (fail_if_success (fail_if_success (with_reducible first | refine xstp ?_ | refine Both.mk ?_ ?_ | refine xgon ?_ | intro _)))))
    rw [mkS_append]
    have htc : ∀ t ∈ tal x.l, t.1.length ≤ 40 ∧ t.2 ≤ 9223372036854775807 := fun t ht => by
      obtain ⟨r, hr, e⟩ := List.mem_map.1 (((tal_inv x.l).2.1 t.1).1 (List.mem_map.2 ⟨t, ht, rfl⟩))
      have h1 := (hxi.2.2 r hr).1.1.2
      have h2 := tal_cnt ht
      exact ⟨by rw [← e]; exact h1, by omega⟩
    have hdl := hdB_len (inB X.length ((ls X).take i)) (mkS (outB ((ls X).take i))).size (x.l.getD 0 default).at_.toNat (x.l.getD (x.l.length - 1) default).at_.toNat (tal x.l).length
    refine LoopK.mk' {k : Nat // k ≤ (tal x.l).length}
      (fun ⟨k, _⟩ => ⟨[(0, .c (.sl 0 0 1 0 X.length c)), (3, .c (.s (mkS (outB ((ls X).take i))))), (4, .c (.s (mkS (hdB (inB X.length ((ls X).take i)) (mkS (outB ((ls X).take i))).size (x.l.getD 0 default).at_.toNat (x.l.getD (x.l.length - 1) default).at_.toNat (tal x.l).length ++ tlB ((tal x.l).take k))))), (5, .c (.i .i64 (i : Nat))), (6, .c (.sl 1 i 3 0 x.l.length x.cap)), (7, .c (.sl 2 0 2 0 (tal x.l).length c1)), (8, .c (.i .i64 (k : Nat)))],
        [.one (rhR 1 X c), .many (chG X), .one (tlR true (tal x.l) c1)]⟩) (fun k => (tal x.l).length - k.1)
      ⟨⟨0, Nat.zero_le _⟩, [0, 1, 2], ?_⟩ ?_
    · (repeat' first | refine And.intro ?_ ?_ | exact xeC | fail)
      all_goals first
        | (exact xmC)
        | (subst hxl; exact ixG_leB chF hlt)
        | (subst hxl; exact ixG_leB1 chF hlt)
        | skip
      all_goals simp [hdB, tlB]
    rintro ⟨k, hk⟩
    have htk := tlB_len (T := (tal x.l).take k) fun t h => (htc t (List.mem_of_mem_take h)).1
    rw [List.length_take] at htk
    have s4 : (mkS (hdB (inB X.length ((ls X).take i)) (mkS (outB ((ls X).take i))).size (x.l.getD 0 default).at_.toNat (x.l.getD (x.l.length - 1) default).at_.toNat (tal x.l).length ++ tlB ((tal x.l).take k))).size = (hdB (inB X.length ((ls X).take i)) (mkS (outB ((ls X).take i))).size (x.l.getD 0 default).at_.toNat (x.l.getD (x.l.length - 1) default).at_.toNat (tal x.l).length).length + (tlB ((tal x.l).take k)).length := by simp only [z, List.length_append]
    rw [← z (inB X.length ((ls X).take i))] at hdl
    rcases Nat.lt_or_ge k (tal x.l).length with hkl | hkg
    · have hts2 := take_snocG (tal x.l) hkl
      have hti := htc ((tal x.l).getD k default) (by rw [getD_at hkl]; exact List.getElem_mem _)
      have e5 : 0 + ((k : Nat) : Int).toNat = k := by omega
      have w5 := textL_len ((tal x.l).getD k default).1
      have w6 := venc_le ((tal x.l).getD k default).2
      rw [← z] at w5 w6
      repeat' (first | (fail_if_success (with_reducible refine xstp ?_)); first | ((with_reducible refine And.intro (fun (hb : _ = true) => ?_) (fun (hb : _ = false) => ?_)) <;> replace hb := xnC hb <;> (try first | exact xfC | exact bff hb (by assumption) | exact bff (by assumption) hb)) | (with_reducible refine Both.mk ?_ ?_) | ((with_reducible refine And.intro ?_ ?_); focus exact xoC) | ((with_reducible refine Or.inl ⟨?_, ?_, ?_⟩); (focus rfl); focus exact xaC) | ((with_reducible refine xwB ?_ ?_); focus exact xaC) | ((with_reducible refine xwC ?_ ?_); focus exact xaC) | ((with_reducible refine xwD ?_ ?_); focus exact xaC) | ((with_reducible refine xwE ?_ ?_); focus exact xaC) | (with_reducible intro hc; (try simp only [capsP, and_true] at hc); (try exact xfC)) | ((fail_if_success (with_reducible first | refine xgon ?_ | intro _)); (conv => whnf); (fail_if_success (fail_if_success (with_reducible first | refine xstp ?_ | refine Both.mk ?_ ?_ | refine xgon ?_ | intro _)))))
      refine cH41bH2 (σ := []) (nl := []) (cTextR ((tal x.l).getD k default).1 (by omega)) ?_ (hle := by (repeat' first | refine And.intro ?_ ?_ | exact xeC | fail) <;> (exact xmC))
      rintro v h' ⟨rfl, rfl⟩ hcaps
      refine rH41bH0 ?_
      repeat' (first | (fail_if_success (with_reducible refine xstp ?_)); first | ((with_reducible refine And.intro (fun (hb : _ = true) => ?_) (fun (hb : _ = false) => ?_)) <;> replace hb := xnC hb <;> (try first | exact xfC | exact bff hb (by assumption) | exact bff (by assumption) hb)) | (with_reducible refine Both.mk ?_ ?_) | ((with_reducible refine And.intro ?_ ?_); focus exact xoC) | ((with_reducible refine Or.inl ⟨?_, ?_, ?_⟩); (focus rfl); focus exact xaC) | ((with_reducible refine xwB ?_ ?_); focus exact xaC) | ((with_reducible refine xwC ?_ ?_); focus exact xaC) | ((with_reducible refine xwD ?_ ?_); focus exact xaC) | ((with_reducible refine xwE ?_ ?_); focus exact xaC) | (with_reducible intro hc; (try simp only [capsP, and_true] at hc); (try exact xfC)) | ((fail_if_success (with_reducible first | refine xgon ?_ | intro _)); (conv => whnf); (fail_if_success (fail_if_success (with_reducible first | refine xstp ?_ | refine Both.mk ?_ ?_ | refine xgon ?_ | intro _)))))
      rw [mkS_append]
      refine cH41bH2 (σ := []) (nl := []) (ccount (((tal x.l).getD k default).2 : Nat) (by omega)) ?_ (hle := by (repeat' first | refine And.intro ?_ ?_ | exact xeC | fail) <;> (exact xmC))
      rintro v h' ⟨rfl, rfl⟩ hcaps
      refine rH41bH0 ?_
      have s5 : (mkS (hdB (inB X.length ((ls X).take i)) (mkS (outB ((ls X).take i))).size (x.l.getD 0 default).at_.toNat (x.l.getD (x.l.length - 1) default).at_.toNat (tal x.l).length ++ tlB ((tal x.l).take k) ++ textL ((tal x.l).getD k default).1)).size = (mkS (hdB (inB X.length ((ls X).take i)) (mkS (outB ((ls X).take i))).size (x.l.getD 0 default).at_.toNat (x.l.getD (x.l.length - 1) default).at_.toNat (tal x.l).length ++ tlB ((tal x.l).take k))).size + (mkS (textL ((tal x.l).getD k default).1)).size := by simp only [z, List.length_append]
      repeat' (first | (fail_if_success (with_reducible refine xstp ?_)); first | ((with_reducible refine And.intro (fun (hb : _ = true) => ?_) (fun (hb : _ = false) => ?_)) <;> replace hb := xnC hb <;> (try first | exact xfC | exact bff hb (by assumption) | exact bff (by assumption) hb)) | (with_reducible refine Both.mk ?_ ?_) | ((with_reducible refine And.intro ?_ ?_); focus exact xoC) | ((with_reducible refine Or.inl ⟨?_, ?_, ?_⟩); (focus rfl); focus exact xaC) | ((with_reducible refine xwB ?_ ?_); focus exact xaC) | ((with_reducible refine xwC ?_ ?_); focus exact xaC) | ((with_reducible refine xwD ?_ ?_); focus exact xaC) | ((with_reducible refine xwE ?_ ?_); focus exact xaC) | (with_reducible intro hc; (try simp only [capsP, and_true] at hc); (try exact xfC)) | ((fail_if_success (with_reducible first | refine xgon ?_ | intro _)); (conv => whnf); (fail_if_success (fail_if_success (with_reducible first | refine xstp ?_ | refine Both.mk ?_ ?_ | refine xgon ?_ | intro _)))))
      rw [mkS_append]
      refine ⟨⟨k + 1, by omega⟩, [0, 1, 2], by simp only; omega, ?_⟩
      (repeat' first | refine And.intro ?_ ?_ | exact xeC | fail)
      all_goals first
        | (exact xmC)
        | (subst hxl; exact ixG_leB chF hlt)
        | (subst hxl; exact ixG_leB1 chF hlt)
        | skip
      rw [hts2, tlB_snoc]
      simp only [List.append_assoc]
    · obtain rfl : k = (tal x.l).length := by omega
      have hta2 : (tal x.l).take (tal x.l).length = tal x.l := List.take_length
      repeat' (first | (fail_if_success (with_reducible refine xstp ?_)); first | ((with_reducible refine And.intro (fun (hb : _ = true) => ?_) (fun (hb : _ = false) => ?_)) <;> replace hb := xnC hb <;> (try first | exact xfC | exact bff hb (by assumption) | exact bff (by assumption) hb)) | (with_reducible refine Both.mk ?_ ?_) | ((with_reducible refine And.intro ?_ ?_); focus exact xoC) | ((with_reducible refine Or.inl ⟨?_, ?_, ?_⟩); (focus rfl); focus exact xaC) | ((with_reducible refine xwB ?_ ?_); focus exact xaC) | ((with_reducible refine xwC ?_ ?_); focus exact xaC) | ((with_reducible refine xwD ?_ ?_); focus exact xaC) | ((with_reducible refine xwE ?_ ?_); focus exact xaC) | (with_reducible intro hc; (try simp only [capsP, and_true] at hc); (try exact xfC)) | ((fail_if_success (with_reducible first | refine xgon ?_ | intro _)); (conv => whnf); (fail_if_success (fail_if_success (with_reducible first | refine xstp ?_ | refine Both.mk ?_ ?_ | refine xgon ?_ | intro _)))))
      rw [hta2, hdB_des]
      have hidx : desB (mkS (outB ((ls X).take i))).size (x.l.getD 0 default).at_.toNat (x.l.getD (x.l.length - 1) default).at_.toNat (tal x.l) = idxE (outB ((ls X).take i)).length x.l := rfl
      rw [hidx, ← inB_snoc, ← hts]
      refine cH41bH2 (σ := [.mem 1 i]) (nl := []) (ccontent true x.l x.cap (by omega) hxi.2.2) ?_ (hle := by (repeat' first | refine And.intro ?_ ?_ | exact xeC | fail) <;> (first | (refine ManyK.mk ⟨_, hix, ?_⟩ <;> (repeat' first | refine And.intro ?_ ?_ | exact xeC | fail)) | (exact xmC)))
      rintro v h' ⟨rfl, rfl⟩ hcaps
      refine rH41bH0 ?_
      repeat' (first | (fail_if_success (with_reducible refine xstp ?_)); first | ((with_reducible refine And.intro (fun (hb : _ = true) => ?_) (fun (hb : _ = false) => ?_)) <;> replace hb := xnC hb <;> (try first | exact xfC | exact bff hb (by assumption) | exact bff (by assumption) hb)) | (with_reducible refine Both.mk ?_ ?_) | ((with_reducible refine And.intro ?_ ?_); focus exact xoC) | ((with_reducible refine Or.inl ⟨?_, ?_, ?_⟩); (focus rfl); focus exact xaC) | ((with_reducible refine xwB ?_ ?_); focus exact xaC) | ((with_reducible refine xwC ?_ ?_); focus exact xaC) | ((with_reducible refine xwD ?_ ?_); focus exact xaC) | ((with_reducible refine xwE ?_ ?_); focus exact xaC) | (with_reducible intro hc; (try simp only [capsP, and_true] at hc); (try exact xfC)) | ((fail_if_success (with_reducible first | refine xgon ?_ | intro _)); (conv => whnf); (fail_if_success (fail_if_success (with_reducible first | refine xstp ?_ | refine Both.mk ?_ ?_ | refine xgon ?_ | intro _)))))
      refine cH41bH2 (σ := []) (nl := []) (cSealR (mkS (conB x.l)) (by rw [z]; omega)) ?_ (hle := by (repeat' first | refine And.intro ?_ ?_ | exact xeC | fail) <;> (exact xmC))
      rintro v h' ⟨rfl, rfl⟩ hcaps
      refine rH41bH0 ?_
      repeat' (first | (fail_if_success (with_reducible refine xstp ?_)); first | ((with_reducible refine And.intro (fun (hb : _ = true) => ?_) (fun (hb : _ = false) => ?_)) <;> replace hb := xnC hb <;> (try first | exact xfC | exact bff hb (by assumption) | exact bff (by assumption) hb)) | (with_reducible refine Both.mk ?_ ?_) | ((with_reducible refine And.intro ?_ ?_); focus exact xoC) | ((with_reducible refine Or.inl ⟨?_, ?_, ?_⟩); (focus rfl); focus exact xaC) | ((with_reducible refine xwB ?_ ?_); focus exact xaC) | ((with_reducible refine xwC ?_ ?_); focus exact xaC) | ((with_reducible refine xwD ?_ ?_); focus exact xaC) | ((with_reducible refine xwE ?_ ?_); focus exact xaC) | (with_reducible intro hc; (try simp only [capsP, and_true] at hc); (try exact xfC)) | ((fail_if_success (with_reducible first | refine xgon ?_ | intro _)); (conv => whnf); (fail_if_success (fail_if_success (with_reducible first | refine xstp ?_ | refine Both.mk ?_ ?_ | refine xgon ?_ | intro _)))))
      refine cH41bH2 (σ := []) (nl := []) (cTextR (sealL (conB x.l)) (by rw [sealL_len]; omega)) ?_ (hle := by (repeat' first | refine And.intro ?_ ?_ | exact xeC | fail) <;> (exact xmC))
      rintro v h' ⟨rfl, rfl⟩ hcaps
      refine rH41bH0 ?_
      have hsz := secB_len hxi.2.2
      have hsec : textL (sealL (conB x.l)) = secB x.l := rfl
      rw [hsec]
      rw [← z] at hsz
      repeat' (first | (fail_if_success (with_reducible refine xstp ?_)); first | ((with_reducible refine And.intro (fun (hb : _ = true) => ?_) (fun (hb : _ = false) => ?_)) <;> replace hb := xnC hb <;> (try first | exact xfC | exact bff hb (by assumption) | exact bff (by assumption) hb)) | (with_reducible refine Both.mk ?_ ?_) | ((with_reducible refine And.intro ?_ ?_); focus exact xoC) | ((with_reducible refine Or.inl ⟨?_, ?_, ?_⟩); (focus rfl); focus exact xaC) | ((with_reducible refine xwB ?_ ?_); focus exact xaC) | ((with_reducible refine xwC ?_ ?_); focus exact xaC) | ((with_reducible refine xwD ?_ ?_); focus exact xaC) | ((with_reducible refine xwE ?_ ?_); focus exact xaC) | (with_reducible intro hc; (try simp only [capsP, and_true] at hc); (try exact xfC)) | ((fail_if_success (with_reducible first | refine xgon ?_ | intro _)); (conv => whnf); (fail_if_success (fail_if_success (with_reducible first | refine xstp ?_ | refine Both.mk ?_ ?_ | refine xgon ?_ | intro _)))))
      rw [mkS_append, ← outB_snoc, ← hts]
      refine ⟨⟨i + 1, hlt⟩, [0, 1], by simp only; omega, ?_⟩
      (repeat' first | refine And.intro ?_ ?_ | exact xeC | fail)
      all_goals first
        | (exact xmC)
        | (subst hxl; exact ixG_leB chF hlt)
        | (subst hxl; exact ixG_leB1 chF hlt)
        | skip
  · obtain rfl : i = X.length := by omega
    have hta : (ls X).take X.length = ls X := List.take_of_length_le (by rw [List.length_map]; exact Nat.le_refl _)
    repeat' (first | (fail_if_success (with_reducible refine xstp ?_)); first | ((with_reducible refine And.intro (fun (hb : _ = true) => ?_) (fun (hb : _ = false) => ?_)) <;> replace hb := xnC hb <;> (try first | exact xfC | exact bff hb (by assumption) | exact bff (by assumption) hb)) | (with_reducible refine Both.mk ?_ ?_) | ((with_reducible refine And.intro ?_ ?_); focus exact xoC) | ((with_reducible refine Or.inl ⟨?_, ?_, ?_⟩); (focus rfl); focus exact xaC) | ((with_reducible refine xwB ?_ ?_); focus exact xaC) | ((with_reducible refine xwC ?_ ?_); focus exact xaC) | ((with_reducible refine xwD ?_ ?_); focus exact xaC) | ((with_reducible refine xwE ?_ ?_); focus exact xaC) | (with_reducible intro hc; (try simp only [capsP, and_true] at hc); (try exact xfC)) | ((fail_if_success (with_reducible first | refine xgon ?_ | intro _)); (conv => whnf); (fail_if_success (fail_if_success (with_reducible first | refine xstp ?_ | refine Both.mk ?_ ?_ | refine xgon ?_ | intro _)))))
    rw [hta] at ho hii ⊢
    refine cH41bH2 (σ := []) (nl := []) (cSealR (mkS (inB X.length (ls X))) (by omega)) ?_ (hle := by (repeat' first | refine And.intro ?_ ?_ | exact xeC | fail) <;> (exact xmC))
    rintro v h' ⟨rfl, rfl⟩ hcaps
    refine rH41bH0 ?_
    repeat' (first | (fail_if_success (with_reducible refine xstp ?_)); first | ((with_reducible refine And.intro (fun (hb : _ = true) => ?_) (fun (hb : _ = false) => ?_)) <;> replace hb := xnC hb <;> (try first | exact xfC | exact bff hb (by assumption) | exact bff (by assumption) hb)) | (with_reducible refine Both.mk ?_ ?_) | ((with_reducible refine And.intro ?_ ?_); focus exact xoC) | ((with_reducible refine Or.inl ⟨?_, ?_, ?_⟩); (focus rfl); focus exact xaC) | ((with_reducible refine xwB ?_ ?_); focus exact xaC) | ((with_reducible refine xwC ?_ ?_); focus exact xaC) | ((with_reducible refine xwD ?_ ?_); focus exact xaC) | ((with_reducible refine xwE ?_ ?_); focus exact xaC) | (with_reducible intro hc; (try simp only [capsP, and_true] at hc); (try exact xfC)) | ((fail_if_success (with_reducible first | refine xgon ?_ | intro _)); (conv => whnf); (fail_if_success (fail_if_success (with_reducible first | refine xstp ?_ | refine Both.mk ?_ ?_ | refine xgon ?_ | intro _)))))
    have hsl : (sealL (inB X.length (ls X))).length = (mkS (inB X.length (ls X))).size + 4 := by rw [sealL_len]; rfl
    have htl := textL_len (sealL (inB X.length (ls X)))
    rw [← z] at htl
    refine cH41bH2 (σ := []) (nl := []) (cTextR (sealL (inB X.length (ls X))) (by rw [hsl]; omega)) ?_ (hle := by (repeat' first | refine And.intro ?_ ?_ | exact xeC | fail) <;> (exact xmC))
    rintro v h' ⟨rfl, rfl⟩ hcaps
    refine rH41bH0 ?_
    have hls : (ls X).length = X.length := List.length_map _
    have hno : (mkS (outB (ls X))).size = 5 + (secsB (ls X)).length := by simp only [z, outB, magic, List.length_append, List.length_cons, List.length_nil]
    repeat' (first | (fail_if_success (with_reducible refine xstp ?_)); first | ((with_reducible refine And.intro (fun (hb : _ = true) => ?_) (fun (hb : _ = false) => ?_)) <;> replace hb := xnC hb <;> (try first | exact xfC | exact bff hb (by assumption) | exact bff (by assumption) hb)) | (with_reducible refine Both.mk ?_ ?_) | ((with_reducible refine And.intro ?_ ?_); focus exact xoC) | ((with_reducible refine Or.inl ⟨?_, ?_, ?_⟩); (focus rfl); focus exact xaC) | ((with_reducible refine xwB ?_ ?_); focus exact xaC) | ((with_reducible refine xwC ?_ ?_); focus exact xaC) | ((with_reducible refine xwD ?_ ?_); focus exact xaC) | ((with_reducible refine xwE ?_ ?_); focus exact xaC) | (with_reducible intro hc; (try simp only [capsP, and_true] at hc); (try exact xfC)) | ((fail_if_success (with_reducible first | refine xgon ?_ | intro _)); (conv => whnf); (fail_if_success (fail_if_success (with_reducible first | refine xstp ?_ | refine Both.mk ?_ ?_ | refine xgon ?_ | intro _)))))
    rw [mkS_append]
    rw [u64n (by omega), hno]
    refine cH41bH2 (σ := []) (nl := []) (cBytes (5 + (secsB (ls X)).length) 8 (by omega) (by omega)) ?_ (hle := by (repeat' first | refine And.intro ?_ ?_ | exact xeC | fail) <;> (exact xmC))
    rintro v h' ⟨rfl, rfl⟩ hcaps
    refine rH41bH0 ?_
    have hl8 : (mkS (le 8 (5 + (secsB (ls X)).length))).size = 8 := by rw [z, le_length]
    have hbs : (mkS (outB (ls X) ++ textL (sealL (inB X.length (ls X))))).size = (mkS (outB (ls X))).size + (mkS (textL (sealL (inB X.length (ls X))))).size := by simp only [z, List.length_append]
    repeat' (first | (fail_if_success (with_reducible refine xstp ?_)); first | ((with_reducible refine And.intro (fun (hb : _ = true) => ?_) (fun (hb : _ = false) => ?_)) <;> replace hb := xnC hb <;> (try first | exact xfC | exact bff hb (by assumption) | exact bff (by assumption) hb)) | (with_reducible refine Both.mk ?_ ?_) | ((with_reducible refine And.intro ?_ ?_); focus exact xoC) | ((with_reducible refine Or.inl ⟨?_, ?_, ?_⟩); (focus rfl); focus exact xaC) | ((with_reducible refine xwB ?_ ?_); focus exact xaC) | ((with_reducible refine xwC ?_ ?_); focus exact xaC) | ((with_reducible refine xwD ?_ ?_); focus exact xaC) | ((with_reducible refine xwE ?_ ?_); focus exact xaC) | (with_reducible intro hc; (try simp only [capsP, and_true] at hc); (try exact xfC)) | ((fail_if_success (with_reducible first | refine xgon ?_ | intro _)); (conv => whnf); (fail_if_success (fail_if_success (with_reducible first | refine xstp ?_ | refine Both.mk ?_ ?_ | refine xgon ?_ | intro _)))))
    rw [mkS_append]
    have hbs2 : (mkS (outB (ls X) ++ textL (sealL (inB X.length (ls X))) ++ le 8 (5 + (secsB (ls X)).length))).size = (mkS (outB (ls X) ++ textL (sealL (inB X.length (ls X))))).size + 8 := by simp only [z, List.length_append, le_length]
    have hm5 : ({ data := #[82, 66, 65, 71, 49] } : ByteArray).size = 5 := rfl
    repeat' (first | (fail_if_success (with_reducible refine xstp ?_)); first | ((with_reducible refine And.intro (fun (hb : _ = true) => ?_) (fun (hb : _ = false) => ?_)) <;> replace hb := xnC hb <;> (try first | exact xfC | exact bff hb (by assumption) | exact bff (by assumption) hb)) | (with_reducible refine Both.mk ?_ ?_) | ((with_reducible refine And.intro ?_ ?_); focus exact xoC) | ((with_reducible refine Or.inl ⟨?_, ?_, ?_⟩); (focus rfl); focus exact xaC) | ((with_reducible refine xwB ?_ ?_); focus exact xaC) | ((with_reducible refine xwC ?_ ?_); focus exact xaC) | ((with_reducible refine xwD ?_ ?_); focus exact xaC) | ((with_reducible refine xwE ?_ ?_); focus exact xaC) | (with_reducible intro hc; (try simp only [capsP, and_true] at hc); (try exact xfC)) | ((fail_if_success (with_reducible first | refine xgon ?_ | intro _)); (conv => whnf); (fail_if_success (fail_if_success (with_reducible first | refine xstp ?_ | refine Both.mk ?_ ?_ | refine xgon ?_ | intro _)))))
    rw [show ({ data := #[82, 66, 65, 71, 49] } : ByteArray) = mkS magic from rfl, mkS_append]
    have hfin : outB (ls X) ++ textL (sealL (inB X.length (ls X))) ++ le 8 (5 + (secsB (ls X)).length) ++ magic = bagB (ls X) := by
      unfold bagB indB
      rw [hls]
    rw [hfin]
    refine FinK.mk ⟨[0, 1], _, _, ⟨rfl, rfl⟩, ?_⟩
    (repeat' first | refine And.intro ?_ ?_ | exact xeC | fail)
    all_goals (exact xmC)
theorem rH41bH1 {σ : List Sg} {H h' : List Fam} {v : T} {K : T → List Fam → Prop} {H' : List Fam} {v' : T} {N : Nat} (hk : K v' H') (hN : H.length = N := by (try simp only [↓List.length_cons, ↓List.length_nil, Nat.reduceAdd]) <;> rfl) (h : givesF σ N H σ h' = some H' := by (try simp (maxSteps := 1000000) only [givesF, setF, updF, Fam.zeroth, Fam.rk, Ck.rk, C.rk, E.rk, T.rk, key, List.map_cons, List.map_nil, List.cons_append, List.nil_append, List.length_cons, List.length_nil, Option.map_some, Option.bind_some, Nat.reduceAdd, Nat.zero_add, Nat.add_zero, Nat.add_sub_cancel_left, Int.toNat_natCast, reps, List.all_cons, List.all_nil, C.flat, List.append_eq, Bool.not_true, Bool.and_true, Bool.or_false, Bool.or_self, Bool.not_false, List.append_nil, Bool.and_self, ↓chG_rk, encRh_rk1]) <;> rfl) (hv : v.rk σ N = v' := by (try simp only [givesF, setF, updF, Fam.zeroth, Fam.rk, Ck.rk, C.rk, E.rk, T.rk, key, List.map_cons, List.map_nil, List.cons_append, List.nil_append, List.length_cons, List.length_nil, Option.map_some, Option.bind_some, Nat.reduceAdd, Nat.zero_add, Nat.add_zero, Nat.add_sub_cancel_left, Int.toNat_natCast, reps, List.all_cons, List.all_nil, C.flat, List.append_eq, Bool.not_true, Bool.and_true, Bool.or_false, Bool.or_self, Bool.not_false, List.append_nil, Bool.and_self, ↓chG_rk, encRh_rk1]) <;> rfl) : RetG σ H h' v K := ret_mk3 hN h hv hk
set_option maxRecDepth 10000 in
set_option maxHeartbeats 4000000 in
theorem cCloseR (w : Wr) (X : List Ch) (c : Nat) (hX : XOk X) (hL : ls X = w.L) :
    Ctr Try.prog 16 [.c (.p 0 0 0)] [.one (rwC w 1 X.length c), .one (rhR 2 X c), .many (chG X)]
      fun v h => v = .t [.c (.s (mkS (if w.cl = true then [] else bagB w.L))), .c (.i .i64 (if w.cl = true then 10 else 0 : Nat))] ∧ h = [.one (rwC { w with cl := true } 1 X.length c), .one (rhR 2 X c), .many (chG X)] := by
  refine Ctr.mk' tbv mixed Try.func16 rfl rfl rfl (fun _ _ => by kernel_rfl) (by kernel_rfl) (by rfl) (by rfl) (by (repeat' first | refine And.intro ?_ ?_ | exact xeC | fail) <;> (exact xmC)) ?_
  repeat' (first | (fail_if_success (with_reducible refine xstp ?_)); first | ((with_reducible refine And.intro (fun (hb : _ = true) => ?_) (fun (hb : _ = false) => ?_)) <;> replace hb := xnC hb <;> (try first | exact xfC | exact bff hb (by assumption) | exact bff (by assumption) hb)) | (with_reducible refine Both.mk ?_ ?_) | ((with_reducible refine And.intro ?_ ?_); focus exact xoC) | ((with_reducible refine Or.inl ⟨?_, ?_, ?_⟩); (focus rfl); focus exact xaC) | ((with_reducible refine xwB ?_ ?_); focus exact xaC) | ((with_reducible refine xwC ?_ ?_); focus exact xaC) | ((with_reducible refine xwD ?_ ?_); focus exact xaC) | ((with_reducible refine xwE ?_ ?_); focus exact xaC) | (with_reducible intro hc; (try simp only [capsP, and_true] at hc); (try exact xfC)) | ((fail_if_success (with_reducible first | refine xgon ?_ | intro _)); (conv => whnf); (fail_if_success (fail_if_success (with_reducible first | refine xstp ?_ | refine Both.mk ?_ ?_ | refine xgon ?_ | intro _)))))
  · rw [if_pos (by assumption), if_pos (by assumption), show ({ w with cl := true } : Wr) = w from by cases w; simp_all]
    refine FinK.mk ⟨[0, 1, 2], _, _, ⟨rfl, rfl⟩, ?_⟩
    (repeat' first | refine And.intro ?_ ?_ | exact xeC | fail)
    all_goals (exact xmC)
  · rw [if_neg (by simp_all), if_neg (by simp_all)]
    refine cH41bH2 (σ := [.whole 1, .whole 2]) (nl := []) (cBag X c hX) ?_ (hle := by (repeat' first | refine And.intro ?_ ?_ | exact xeC | fail) <;> (exact xmC))
    rintro v h' ⟨rfl, rfl⟩ hcaps
    rw [hL]
    refine rH41bH1 ?_
    repeat' (first | (fail_if_success (with_reducible refine xstp ?_)); first | ((with_reducible refine And.intro (fun (hb : _ = true) => ?_) (fun (hb : _ = false) => ?_)) <;> replace hb := xnC hb <;> (try first | exact xfC | exact bff hb (by assumption) | exact bff (by assumption) hb)) | (with_reducible refine Both.mk ?_ ?_) | ((with_reducible refine And.intro ?_ ?_); focus exact xoC) | ((with_reducible refine Or.inl ⟨?_, ?_, ?_⟩); (focus rfl); focus exact xaC) | ((with_reducible refine xwB ?_ ?_); focus exact xaC) | ((with_reducible refine xwC ?_ ?_); focus exact xaC) | ((with_reducible refine xwD ?_ ?_); focus exact xaC) | ((with_reducible refine xwE ?_ ?_); focus exact xaC) | (with_reducible intro hc; (try simp only [capsP, and_true] at hc); (try exact xfC)) | ((fail_if_success (with_reducible first | refine xgon ?_ | intro _)); (conv => whnf); (fail_if_success (fail_if_success (with_reducible first | refine xstp ?_ | refine Both.mk ?_ ?_ | refine xgon ?_ | intro _)))))
    refine FinK.mk ⟨[0, 1, 2], _, _, ⟨rfl, rfl⟩, ?_⟩
    (repeat' first | refine And.intro ?_ ?_ | exact xeC | fail)
    all_goals (exact xmC)
end Go.Proofs.Ytkjkbpnhocjenaa


namespace Go.Proofs.Ytkjkbpnhocjenaa
open Go.X
set_option linter.unusedSimpArgs false
set_option linter.unusedVariables false
open P4
open P5
set_option maxRecDepth 10000 in
theorem cexa (l : List UInt8) (hl : l.length ≤ 100000000) :
    Ctr Try.prog 45 [.c (.s (mkS l))] [] fun v h => v = .t [.c (.s (mkS (exaL l).1)), .c (.i .i64 ((exaL l).2 : Nat))] ∧ h = [] := by
  have hz : (mkS l).size = l.length := rfl
  have hle := rdT_le (s := mkS l) (a := 0) (e := 0) (m := l.length) (Nat.zero_le _)
  have hlen := rdT_len (mkS l) 0 0 l.length
  refine Ctr.mk' tbv mixed Try.func45 rfl rfl rfl (fun _ _ => by kernel_rfl) (by kernel_rfl) (by rfl) (by rfl) (by (repeat' first | refine And.intro ?_ ?_ | exact xeC | fail)) ?_
  repeat' (first | (fail_if_success (with_reducible refine xstp ?_)); first | ((with_reducible refine And.intro (fun (hb : _ = true) => ?_) (fun (hb : _ = false) => ?_)) <;> replace hb := xnC hb <;> (try first | exact xfC | exact bff hb (by assumption) | exact bff (by assumption) hb)) | (with_reducible refine Both.mk ?_ ?_) | ((with_reducible refine And.intro ?_ ?_); focus exact xoC) | ((with_reducible refine Or.inl ⟨?_, ?_, ?_⟩); (focus rfl); focus exact xaC) | ((with_reducible refine xwB ?_ ?_); focus exact xaC) | ((with_reducible refine xwC ?_ ?_); focus exact xaC) | ((with_reducible refine xwD ?_ ?_); focus exact xaC) | ((with_reducible refine xwE ?_ ?_); focus exact xaC) | (with_reducible intro hc; (try simp only [capsP, and_true] at hc); (try exact xfC)) | ((fail_if_success (with_reducible first | refine xgon ?_ | intro _)); (conv => whnf); (fail_if_success (fail_if_success (with_reducible first | refine xstp ?_ | refine Both.mk ?_ ?_ | refine xgon ?_ | intro _)))))
  refine xcal (σ := []) (nl := []) (cNew (mkS l)) ?_
  rintro v h' ⟨rfl, rfl⟩ hcaps
  refine xret ?_
  repeat' (first | (fail_if_success (with_reducible refine xstp ?_)); first | ((with_reducible refine And.intro (fun (hb : _ = true) => ?_) (fun (hb : _ = false) => ?_)) <;> replace hb := xnC hb <;> (try first | exact xfC | exact bff hb (by assumption) | exact bff (by assumption) hb)) | (with_reducible refine Both.mk ?_ ?_) | ((with_reducible refine And.intro ?_ ?_); focus exact xoC) | ((with_reducible refine Or.inl ⟨?_, ?_, ?_⟩); (focus rfl); focus exact xaC) | ((with_reducible refine xwB ?_ ?_); focus exact xaC) | ((with_reducible refine xwC ?_ ?_); focus exact xaC) | ((with_reducible refine xwD ?_ ?_); focus exact xaC) | ((with_reducible refine xwE ?_ ?_); focus exact xaC) | (with_reducible intro hc; (try simp only [capsP, and_true] at hc); (try exact xfC)) | ((fail_if_success (with_reducible first | refine xgon ?_ | intro _)); (conv => whnf); (fail_if_success (fail_if_success (with_reducible first | refine xstp ?_ | refine Both.mk ?_ ?_ | refine xgon ?_ | intro _)))))
  refine xcal (σ := [.whole 0]) (nl := []) (crText (mkS l) 0 0 (l.length : Nat) (Nat.zero_le _) (by omega) (by omega)) ?_
  rintro v h' ⟨rfl, rfl⟩ hcaps
  refine xret ?_
  repeat' (first | (fail_if_success (with_reducible refine xstp ?_)); first | ((with_reducible refine And.intro (fun (hb : _ = true) => ?_) (fun (hb : _ = false) => ?_)) <;> replace hb := xnC hb <;> (try first | exact xfC | exact bff hb (by assumption) | exact bff (by assumption) hb)) | (with_reducible refine Both.mk ?_ ?_) | ((with_reducible refine And.intro ?_ ?_); focus exact xoC) | ((with_reducible refine Or.inl ⟨?_, ?_, ?_⟩); (focus rfl); focus exact xaC) | ((with_reducible refine xwB ?_ ?_); focus exact xaC) | ((with_reducible refine xwC ?_ ?_); focus exact xaC) | ((with_reducible refine xwD ?_ ?_); focus exact xaC) | ((with_reducible refine xwE ?_ ?_); focus exact xaC) | (with_reducible intro hc; (try simp only [capsP, and_true] at hc); (try exact xfC)) | ((fail_if_success (with_reducible first | refine xgon ?_ | intro _)); (conv => whnf); (fail_if_success (fail_if_success (with_reducible first | refine xstp ?_ | refine Both.mk ?_ ?_ | refine xgon ?_ | intro _)))))
  refine xcal (σ := [.whole 0]) (nl := []) (cEnd (mkS l) (rdT (mkS l) 0 0 l.length).2.1 (rdT (mkS l) 0 0 l.length).2.2 hle.1 (by omega)) ?_
  rintro v h' ⟨rfl, rfl⟩ hcaps
  refine xret ?_
  repeat' (first | (fail_if_success (with_reducible refine xstp ?_)); first | ((with_reducible refine And.intro (fun (hb : _ = true) => ?_) (fun (hb : _ = false) => ?_)) <;> replace hb := xnC hb <;> (try first | exact xfC | exact bff hb (by assumption) | exact bff (by assumption) hb)) | (with_reducible refine Both.mk ?_ ?_) | ((with_reducible refine And.intro ?_ ?_); focus exact xoC) | ((with_reducible refine Or.inl ⟨?_, ?_, ?_⟩); (focus rfl); focus exact xaC) | ((with_reducible refine xwB ?_ ?_); focus exact xaC) | ((with_reducible refine xwC ?_ ?_); focus exact xaC) | ((with_reducible refine xwD ?_ ?_); focus exact xaC) | ((with_reducible refine xwE ?_ ?_); focus exact xaC) | (with_reducible intro hc; (try simp only [capsP, and_true] at hc); (try exact xfC)) | ((fail_if_success (with_reducible first | refine xgon ?_ | intro _)); (conv => whnf); (fail_if_success (fail_if_success (with_reducible first | refine xstp ?_ | refine Both.mk ?_ ?_ | refine xgon ?_ | intro _)))))
  · rw [show exaL l = ([], 2) from if_neg (by omega)]
    refine FinK.mk ⟨[], _, _, ⟨rfl, rfl⟩, ?_⟩; (repeat' first | refine And.intro ?_ ?_ | exact xeC | fail)
  · rw [show exaL l = openL (rdT (mkS l) 0 0 l.length).1 from if_pos (by omega)]
    refine xcal (σ := []) (nl := []) (cOpen (rdT (mkS l) 0 0 l.length).1 (by omega)) ?_
    rintro v h' ⟨rfl, rfl⟩ hcaps
    refine xret ?_
    repeat' (first | (fail_if_success (with_reducible refine xstp ?_)); first | ((with_reducible refine And.intro (fun (hb : _ = true) => ?_) (fun (hb : _ = false) => ?_)) <;> replace hb := xnC hb <;> (try first | exact xfC | exact bff hb (by assumption) | exact bff (by assumption) hb)) | (with_reducible refine Both.mk ?_ ?_) | ((with_reducible refine And.intro ?_ ?_); focus exact xoC) | ((with_reducible refine Or.inl ⟨?_, ?_, ?_⟩); (focus rfl); focus exact xaC) | ((with_reducible refine xwB ?_ ?_); focus exact xaC) | ((with_reducible refine xwC ?_ ?_); focus exact xaC) | ((with_reducible refine xwD ?_ ?_); focus exact xaC) | ((with_reducible refine xwE ?_ ?_); focus exact xaC) | (with_reducible intro hc; (try simp only [capsP, and_true] at hc); (try exact xfC)) | ((fail_if_success (with_reducible first | refine xgon ?_ | intro _)); (conv => whnf); (fail_if_success (fail_if_success (with_reducible first | refine xstp ?_ | refine Both.mk ?_ ?_ | refine xgon ?_ | intro _)))))
    refine FinK.mk ⟨[], _, _, ⟨rfl, rfl⟩, ?_⟩; (repeat' first | refine And.intro ?_ ?_ | exact xeC | fail)
theorem crAt (s : ByteArray) (a e : Nat) (ha : a ≤ s.size) (hs : s.size ≤ 100000000) :
    Ctr Try.prog 79 [.c (.p 0 0 0), .c (.i .i64 1099511627776)] [.one (rdC s a e)]
      fun v h => v = .c (.i .i64 ((rdAt s a e).1 : Nat)) ∧ h = [.one (rdC s (rdAt s a e).2.1 (rdAt s a e).2.2)] := crSmall s a e 1099511627776 ha (by omega) (by omega)
theorem crTp (s : ByteArray) (a e : Nat) (ha : a ≤ s.size) (hs : s.size ≤ 100000000) :
    Ctr Try.prog 60 [.c (.p 0 0 0), .c (.i .i64 40)] [.one (rdC s (rdAt s a e).2.1 (rdAt s a e).2.2)]
      fun v h => v = .c (.s (mkS (rdTp s a e).1)) ∧ h = [.one (rdC s (rdTp s a e).2.1 (rdTp s a e).2.2)] := crText s _ _ 40 (rdPl_mono ha).2.2.1 (by omega) (by omega)
theorem crPl (s : ByteArray) (a e : Nat) (ha : a ≤ s.size) (hs : s.size ≤ 100000000) :
    Ctr Try.prog 60 [.c (.p 0 0 0), .c (.i .i64 4000)] [.one (rdC s (rdTp s a e).2.1 (rdTp s a e).2.2)]
      fun v h => v = .c (.s (mkS (rdPl s a e).1)) ∧ h = [.one (rdC s (rdPl s a e).2.1 (rdPl s a e).2.2)] := crText s _ _ 4000 (rdPl_mono ha).2.2.2 (by omega) (by omega)
theorem opt_map_snoc {o : Option (List Rc)} {L : List Rc} {r : Rc} : (o.map (r :: ·)).map (L ++ ·) = o.map ((L ++ [r]) ++ ·) := by
  cases o <;> simp
set_option maxRecDepth 10000 in
set_option maxHeartbeats 4000000 in
theorem crecs (s : ByteArray) (hs : s.size ≤ 100000000) :
    Ctr Try.prog 63 [.c (.s s)] []
      fun v h => ∃ c, v = .t [.c (.sl 0 0 3 0 (recL s).length c), .c (.b (decide (0 < (recL s).length)))] ∧ h = [.one (rcR true (recL s) c)] := by
  have hle := rdU_le (s := s) (a := 0) (e := 0) (Nat.zero_le _)
  refine Ctr.mk' tbv mixed Try.func63 rfl rfl rfl (fun _ _ => by kernel_rfl) (by kernel_rfl) (by rfl) (by rfl) (by (repeat' first | refine And.intro ?_ ?_ | exact xeC | fail)) ?_
  repeat' (first | (fail_if_success (with_reducible refine xstp ?_)); first | ((with_reducible refine And.intro (fun (hb : _ = true) => ?_) (fun (hb : _ = false) => ?_)) <;> replace hb := xnC hb <;> (try first | exact xfC | exact bff hb (by assumption) | exact bff (by assumption) hb)) | (with_reducible refine Both.mk ?_ ?_) | ((with_reducible refine And.intro ?_ ?_); focus exact xoC) | ((with_reducible refine Or.inl ⟨?_, ?_, ?_⟩); (focus rfl); focus exact xaC) | ((with_reducible refine xwB ?_ ?_); focus exact xaC) | ((with_reducible refine xwC ?_ ?_); focus exact xaC) | ((with_reducible refine xwD ?_ ?_); focus exact xaC) | ((with_reducible refine xwE ?_ ?_); focus exact xaC) | (with_reducible intro hc; (try simp only [capsP, and_true] at hc); (try exact xfC)) | ((fail_if_success (with_reducible first | refine xgon ?_ | intro _)); (conv => whnf); (fail_if_success (fail_if_success (with_reducible first | refine xstp ?_ | refine Both.mk ?_ ?_ | refine xgon ?_ | intro _)))))
  refine xcal (σ := []) (nl := []) (cNew s) ?_
  rintro v h' ⟨rfl, rfl⟩ hcaps
  refine xret ?_
  repeat' (first | (fail_if_success (with_reducible refine xstp ?_)); first | ((with_reducible refine And.intro (fun (hb : _ = true) => ?_) (fun (hb : _ = false) => ?_)) <;> replace hb := xnC hb <;> (try first | exact xfC | exact bff hb (by assumption) | exact bff (by assumption) hb)) | (with_reducible refine Both.mk ?_ ?_) | ((with_reducible refine And.intro ?_ ?_); focus exact xoC) | ((with_reducible refine Or.inl ⟨?_, ?_, ?_⟩); (focus rfl); focus exact xaC) | ((with_reducible refine xwB ?_ ?_); focus exact xaC) | ((with_reducible refine xwC ?_ ?_); focus exact xaC) | ((with_reducible refine xwD ?_ ?_); focus exact xaC) | ((with_reducible refine xwE ?_ ?_); focus exact xaC) | (with_reducible intro hc; (try simp only [capsP, and_true] at hc); (try exact xfC)) | ((fail_if_success (with_reducible first | refine xgon ?_ | intro _)); (conv => whnf); (fail_if_success (fail_if_success (with_reducible first | refine xstp ?_ | refine Both.mk ?_ ?_ | refine xgon ?_ | intro _)))))
  refine xcal (σ := [.whole 0]) (nl := []) (crUint s 0 0 (Nat.zero_le _) (by omega)) ?_
  rintro v h' ⟨rfl, rfl⟩ hcaps
  refine xret ?_
  repeat' (first | (fail_if_success (with_reducible refine xstp ?_)); first | ((with_reducible refine And.intro (fun (hb : _ = true) => ?_) (fun (hb : _ = false) => ?_)) <;> replace hb := xnC hb <;> (try first | exact xfC | exact bff hb (by assumption) | exact bff (by assumption) hb)) | (with_reducible refine Both.mk ?_ ?_) | ((with_reducible refine And.intro ?_ ?_); focus exact xoC) | ((with_reducible refine Or.inl ⟨?_, ?_, ?_⟩); (focus rfl); focus exact xaC) | ((with_reducible refine xwB ?_ ?_); focus exact xaC) | ((with_reducible refine xwC ?_ ?_); focus exact xaC) | ((with_reducible refine xwD ?_ ?_); focus exact xaC) | ((with_reducible refine xwE ?_ ?_); focus exact xaC) | (with_reducible intro hc; (try simp only [capsP, and_true] at hc); (try exact xfC)) | ((fail_if_success (with_reducible first | refine xgon ?_ | intro _)); (conv => whnf); (fail_if_success (fail_if_success (with_reducible first | refine xstp ?_ | refine Both.mk ?_ ?_ | refine xgon ?_ | intro _)))))
  · rw [show recL s = [] from if_neg (by omega)]
    refine FinK.mk ⟨[99], _, _, ⟨0, rfl, rfl⟩, ?_⟩
    (repeat' first | refine And.intro ?_ ?_ | exact xeC | fail)
    all_goals skip
  refine xcal (σ := [.whole 0]) (nl := []) (cErr s (rdU s 0 0).2.1 (rdU s 0 0).2.2) ?_
  rintro v h' ⟨rfl, rfl⟩ hcaps
  refine xret ?_
  repeat' (first | (fail_if_success (with_reducible refine xstp ?_)); first | ((with_reducible refine And.intro (fun (hb : _ = true) => ?_) (fun (hb : _ = false) => ?_)) <;> replace hb := xnC hb <;> (try first | exact xfC | exact bff hb (by assumption) | exact bff (by assumption) hb)) | (with_reducible refine Both.mk ?_ ?_) | ((with_reducible refine And.intro ?_ ?_); focus exact xoC) | ((with_reducible refine Or.inl ⟨?_, ?_, ?_⟩); (focus rfl); focus exact xaC) | ((with_reducible refine xwB ?_ ?_); focus exact xaC) | ((with_reducible refine xwC ?_ ?_); focus exact xaC) | ((with_reducible refine xwD ?_ ?_); focus exact xaC) | ((with_reducible refine xwE ?_ ?_); focus exact xaC) | (with_reducible intro hc; (try simp only [capsP, and_true] at hc); (try exact xfC)) | ((fail_if_success (with_reducible first | refine xgon ?_ | intro _)); (conv => whnf); (fail_if_success (fail_if_success (with_reducible first | refine xstp ?_ | refine Both.mk ?_ ?_ | refine xgon ?_ | intro _)))))
  · rw [show recL s = [] from if_neg (by omega)]
    refine FinK.mk ⟨[99], _, _, ⟨0, rfl, rfl⟩, ?_⟩
    (repeat' first | refine And.intro ?_ ?_ | exact xeC | fail)
    all_goals skip
  have hrl : recL s = (recP s (rdU s 0 0).2.1 0).getD [] := if_pos (by omega)
  have h00 : (rdU s 0 0).2.2 = 0 := by omega
  rw [h00]
  refine LoopK.mk' {p : Nat × Int × List Rc × Nat // p.1 ≤ s.size ∧ p.2.2.1.length ≤ p.1 ∧ recP s (rdU s 0 0).2.1 0 = (recP s p.1 p.2.1).map (p.2.2.1 ++ ·)}
    (fun ⟨(a, la, L, c), _⟩ => ⟨[(0, .c (.s s)), (4, .c (.p 0 0 0)), (5, .c (.sl 1 0 3 0 L.length c)), (6, .c (.i .i64 la))], [.one (rdC s a 0), .one (rcR true L c)]⟩) (fun p => s.size - p.1.1)
    ⟨⟨((rdU s 0 0).2.1, 0, [], 0), hle.1, by simp, by simp⟩, [0, 99], ?_⟩ ?_
  · (repeat' first | refine And.intro ?_ ?_ | exact xeC | fail)
    all_goals first
      | (intro i hi; exact absurd hi (Nat.not_lt_zero i))
      | skip
  rintro ⟨⟨a, la, L, c⟩, ha, hLa, hpre⟩
  simp only at ha hLa hpre
  repeat' (first | (fail_if_success (with_reducible refine xstp ?_)); first | ((with_reducible refine And.intro (fun (hb : _ = true) => ?_) (fun (hb : _ = false) => ?_)) <;> replace hb := xnC hb <;> (try first | exact xfC | exact bff hb (by assumption) | exact bff (by assumption) hb)) | (with_reducible refine Both.mk ?_ ?_) | ((with_reducible refine And.intro ?_ ?_); focus exact xoC) | ((with_reducible refine Or.inl ⟨?_, ?_, ?_⟩); (focus rfl); focus exact xaC) | ((with_reducible refine xwB ?_ ?_); focus exact xaC) | ((with_reducible refine xwC ?_ ?_); focus exact xaC) | ((with_reducible refine xwD ?_ ?_); focus exact xaC) | ((with_reducible refine xwE ?_ ?_); focus exact xaC) | (with_reducible intro hc; (try simp only [capsP, and_true] at hc); (try exact xfC)) | ((fail_if_success (with_reducible first | refine xgon ?_ | intro _)); (conv => whnf); (fail_if_success (fail_if_success (with_reducible first | refine xstp ?_ | refine Both.mk ?_ ?_ | refine xgon ?_ | intro _)))))
  refine xcal (σ := [.whole 0]) (nl := []) (cLeft s a 0 ha (by omega)) ?_
  rintro v h' ⟨rfl, rfl⟩ hcaps
  refine xret ?_
  repeat' (first | (fail_if_success (with_reducible refine xstp ?_)); first | ((with_reducible refine And.intro (fun (hb : _ = true) => ?_) (fun (hb : _ = false) => ?_)) <;> replace hb := xnC hb <;> (try first | exact xfC | exact bff hb (by assumption) | exact bff (by assumption) hb)) | (with_reducible refine Both.mk ?_ ?_) | ((with_reducible refine And.intro ?_ ?_); focus exact xoC) | ((with_reducible refine Or.inl ⟨?_, ?_, ?_⟩); (focus rfl); focus exact xaC) | ((with_reducible refine xwB ?_ ?_); focus exact xaC) | ((with_reducible refine xwC ?_ ?_); focus exact xaC) | ((with_reducible refine xwD ?_ ?_); focus exact xaC) | ((with_reducible refine xwE ?_ ?_); focus exact xaC) | (with_reducible intro hc; (try simp only [capsP, and_true] at hc); (try exact xfC)) | ((fail_if_success (with_reducible first | refine xgon ?_ | intro _)); (conv => whnf); (fail_if_success (fail_if_success (with_reducible first | refine xstp ?_ | refine Both.mk ?_ ?_ | refine xgon ?_ | intro _)))))
  · have hmo := rdPl_mono (s := s) (a := a) (e := 0) ha
    have htl := rdT_len s (rdAt s a 0).2.1 (rdAt s a 0).2.2 40
    have htl2 : (rdTp s a 0).1.length ≤ 40 := htl
    have hno : ¬ okN s a la → recL s = [] := fun h => by rw [hrl, hpre, recP_no (by omega) h]; rfl
    refine xcal (σ := [.whole 0]) (nl := []) (crAt s a 0 ha (by omega)) ?_
    rintro v h' ⟨rfl, rfl⟩ hcaps
    refine xret ?_
    repeat' (first | (fail_if_success (with_reducible refine xstp ?_)); first | ((with_reducible refine And.intro (fun (hb : _ = true) => ?_) (fun (hb : _ = false) => ?_)) <;> replace hb := xnC hb <;> (try first | exact xfC | exact bff hb (by assumption) | exact bff (by assumption) hb)) | (with_reducible refine Both.mk ?_ ?_) | ((with_reducible refine And.intro ?_ ?_); focus exact xoC) | ((with_reducible refine Or.inl ⟨?_, ?_, ?_⟩); (focus rfl); focus exact xaC) | ((with_reducible refine xwB ?_ ?_); focus exact xaC) | ((with_reducible refine xwC ?_ ?_); focus exact xaC) | ((with_reducible refine xwD ?_ ?_); focus exact xaC) | ((with_reducible refine xwE ?_ ?_); focus exact xaC) | (with_reducible intro hc; (try simp only [capsP, and_true] at hc); (try exact xfC)) | ((fail_if_success (with_reducible first | refine xgon ?_ | intro _)); (conv => whnf); (fail_if_success (fail_if_success (with_reducible first | refine xstp ?_ | refine Both.mk ?_ ?_ | refine xgon ?_ | intro _)))))
    refine xcal (σ := [.whole 0]) (nl := []) (crTp s a 0 ha (by omega)) ?_
    rintro v h' ⟨rfl, rfl⟩ hcaps
    refine xret ?_
    repeat' (first | (fail_if_success (with_reducible refine xstp ?_)); first | ((with_reducible refine And.intro (fun (hb : _ = true) => ?_) (fun (hb : _ = false) => ?_)) <;> replace hb := xnC hb <;> (try first | exact xfC | exact bff hb (by assumption) | exact bff (by assumption) hb)) | (with_reducible refine Both.mk ?_ ?_) | ((with_reducible refine And.intro ?_ ?_); focus exact xoC) | ((with_reducible refine Or.inl ⟨?_, ?_, ?_⟩); (focus rfl); focus exact xaC) | ((with_reducible refine xwB ?_ ?_); focus exact xaC) | ((with_reducible refine xwC ?_ ?_); focus exact xaC) | ((with_reducible refine xwD ?_ ?_); focus exact xaC) | ((with_reducible refine xwE ?_ ?_); focus exact xaC) | (with_reducible intro hc; (try simp only [capsP, and_true] at hc); (try exact xfC)) | ((fail_if_success (with_reducible first | refine xgon ?_ | intro _)); (conv => whnf); (fail_if_success (fail_if_success (with_reducible first | refine xstp ?_ | refine Both.mk ?_ ?_ | refine xgon ?_ | intro _)))))
    refine xcal (σ := [.whole 0]) (nl := []) (crPl s a 0 ha (by omega)) ?_
    rintro v h' ⟨rfl, rfl⟩ hcaps
    refine xret ?_
    repeat' (first | (fail_if_success (with_reducible refine xstp ?_)); first | ((with_reducible refine And.intro (fun (hb : _ = true) => ?_) (fun (hb : _ = false) => ?_)) <;> replace hb := xnC hb <;> (try first | exact xfC | exact bff hb (by assumption) | exact bff (by assumption) hb)) | (with_reducible refine Both.mk ?_ ?_) | ((with_reducible refine And.intro ?_ ?_); focus exact xoC) | ((with_reducible refine Or.inl ⟨?_, ?_, ?_⟩); (focus rfl); focus exact xaC) | ((with_reducible refine xwB ?_ ?_); focus exact xaC) | ((with_reducible refine xwC ?_ ?_); focus exact xaC) | ((with_reducible refine xwD ?_ ?_); focus exact xaC) | ((with_reducible refine xwE ?_ ?_); focus exact xaC) | (with_reducible intro hc; (try simp only [capsP, and_true] at hc); (try exact xfC)) | ((fail_if_success (with_reducible first | refine xgon ?_ | intro _)); (conv => whnf); (fail_if_success (fail_if_success (with_reducible first | refine xstp ?_ | refine Both.mk ?_ ?_ | refine xgon ?_ | intro _)))))
    refine xcal (σ := [.whole 0]) (nl := []) (cErr s (rdPl s a 0).2.1 (rdPl s a 0).2.2) ?_
    rintro v h' ⟨rfl, rfl⟩ hcaps
    refine xret ?_
    repeat' (first | (fail_if_success (with_reducible refine xstp ?_)); first | ((with_reducible refine And.intro (fun (hb : _ = true) => ?_) (fun (hb : _ = false) => ?_)) <;> replace hb := xnC hb <;> (try first | exact xfC | exact bff hb (by assumption) | exact bff (by assumption) hb)) | (with_reducible refine Both.mk ?_ ?_) | ((with_reducible refine And.intro ?_ ?_); focus exact xoC) | ((with_reducible refine Or.inl ⟨?_, ?_, ?_⟩); (focus rfl); focus exact xaC) | ((with_reducible refine xwB ?_ ?_); focus exact xaC) | ((with_reducible refine xwC ?_ ?_); focus exact xaC) | ((with_reducible refine xwD ?_ ?_); focus exact xaC) | ((with_reducible refine xwE ?_ ?_); focus exact xaC) | (with_reducible intro hc; (try simp only [capsP, and_true] at hc); (try exact xfC)) | ((fail_if_success (with_reducible first | refine xgon ?_ | intro _)); (conv => whnf); (fail_if_success (fail_if_success (with_reducible first | refine xstp ?_ | refine Both.mk ?_ ?_ | refine xgon ?_ | intro _)))))
    · rw [hno (fun h => by have := h.1; omega)]
      refine FinK.mk ⟨[99], _, _, ⟨0, rfl, rfl⟩, ?_⟩
      (repeat' first | refine And.intro ?_ ?_ | exact xeC | fail)
    refine xcal (σ := []) (nl := []) (cisT (rdTp s a 0).1 (by omega)) ?_
    rintro v h' ⟨rfl, rfl⟩ hcaps
    refine xret ?_
    repeat' (first | (fail_if_success (with_reducible refine xstp ?_)); first | ((with_reducible refine And.intro (fun (hb : _ = true) => ?_) (fun (hb : _ = false) => ?_)) <;> replace hb := xnC hb <;> (try first | exact xfC | exact bff hb (by assumption) | exact bff (by assumption) hb)) | (with_reducible refine Both.mk ?_ ?_) | ((with_reducible refine And.intro ?_ ?_); focus exact xoC) | ((with_reducible refine Or.inl ⟨?_, ?_, ?_⟩); (focus rfl); focus exact xaC) | ((with_reducible refine xwB ?_ ?_); focus exact xaC) | ((with_reducible refine xwC ?_ ?_); focus exact xaC) | ((with_reducible refine xwD ?_ ?_); focus exact xaC) | ((with_reducible refine xwE ?_ ?_); focus exact xaC) | (with_reducible intro hc; (try simp only [capsP, and_true] at hc); (try exact xfC)) | ((fail_if_success (with_reducible first | refine xgon ?_ | intro _)); (conv => whnf); (fail_if_success (fail_if_success (with_reducible first | refine xstp ?_ | refine Both.mk ?_ ?_ | refine xgon ?_ | intro _)))))
    · rw [hno (fun h => by have := h.2.1; first | exact absurd this (by assumption) | omega)]
      refine FinK.mk ⟨[99], _, _, ⟨0, rfl, rfl⟩, ?_⟩
      (repeat' first | refine And.intro ?_ ?_ | exact xeC | fail)
    · rw [hno (fun h => by have := h.2.2; omega)]
      refine FinK.mk ⟨[99], _, _, ⟨0, rfl, rfl⟩, ?_⟩
      (repeat' first | refine And.intro ?_ ?_ | exact xeC | fail)
    · rename_i c2
      have hok : okN s a la := ⟨by omega, by assumption, by omega⟩
      have hpos := rdPl_pos hok.1
      have hp2 := hpre
      rw [recP_go (by omega) hok, opt_map_snoc] at hp2
      rw [hok.1]
      refine ⟨⟨((rdPl s a 0).2.1, ((rdAt s a 0).1 : Nat), L ++ [rdRec s a 0], c2), hmo.2.1, by rw [List.length_append, List.length_singleton]; omega, hp2⟩, [0, 4], by simp only; omega, ?_⟩
      (repeat' first | refine And.intro ?_ ?_ | exact xeC | fail)
      all_goals first | omega | (simp only [List.length_append, List.length_singleton]; done) | (rw [List.length_append, List.length_singleton]; omega) | (intro i hi; (first | refine app_rowG _ _ _ _ ?_ i hi | refine app_row _ _ _ ?_ i hi); first | rfl | (simp only [Int.toNat_natCast, Nat.zero_add]; rfl))
  · have hL : recL s = L := by rw [hrl, hpre, recP_end (by omega)]; simp
    rw [hL]
    refine FinK.mk ⟨[1], _, _, ⟨c, rfl, rfl⟩, ?_⟩
    (repeat' first | refine And.intro ?_ ?_ | exact xeC | fail)
    all_goals (first | exact decide_eq_true (by omega) | exact decide_eq_false (by omega) | exact (decide_eq_true (by omega)).symm | exact (decide_eq_false (by omega)).symm | exact decide_eq_decide.2 (by omega))
end Go.Proofs.Ytkjkbpnhocjenaa


namespace Go.Proofs.Ytkjkbpnhocjenaa
open Go.X
set_option linter.unusedSimpArgs false
set_option linter.unusedVariables false
open P4
open P5
def lastA (L : List Rc) : Int := (L.getD (L.length - 1) default).at_
def totR (s : ByteArray) : Option (List Rc) := if (rdU s 0 0).1 = 1 ∧ (rdU s 0 0).2.2 = 0 then recP s (rdU s 0 0).2.1 0 else none
theorem lastA_snoc (L : List Rc) (r : Rc) : lastA (L ++ [r]) = r.at_ := by
  unfold lastA
  simp [List.getD]
structure RIn (s : ByteArray) (a e : Nat) (L : List Rc) (ok : Bool) : Prop where
  le : a ≤ s.size
  n : L.length ≤ a + (if e = 0 then 0 else 1)
  y : ok = true → e = 0 → totR s = (recP s a (lastA L)).map (L ++ ·)
  no : ok = false ∨ e ≠ 0 → totR s = none
theorem RIn.step {s : ByteArray} {a : Nat} {L : List Rc} {ok ok2 : Bool} (h : RIn s a 0 L ok) (hlt : a < s.size) (h2 : ok2 = true ↔ ok = true ∧ isT (rdTp s a 0).1 ∧ lastA L ≤ ((rdAt s a 0).1 : Nat)) :
    RIn s (rdPl s a 0).2.1 (rdPl s a 0).2.2 (L ++ [rdRec s a 0]) ok2 := by
  have hmo := rdPl_mono (e := 0) (Nat.le_of_lt hlt)
  have hn := h.n
  rw [if_pos rfl] at hn
  refine ⟨hmo.2.1, ?_, fun h3 h4 => ?_, fun h3 => ?_⟩
  · rw [List.length_append, List.length_singleton]
    by_cases hp : (rdPl s a 0).2.2 = 0
    · have := rdPl_pos hp
      rw [if_pos hp]; omega
    · rw [if_neg hp]; omega
  · have h5 := h2.1 h3
    rw [h.y h5.1 rfl, recP_go hlt ⟨h4, h5.2⟩, opt_map_snoc, lastA_snoc]
    rfl
  · cases hk : ok with
    | false => exact h.no (.inl hk)
    | true =>
      rw [h.y hk rfl, recP_no hlt (fun q => ?_)]
      · rfl
      · rcases h3 with h3 | h3
        · have := h2.2 ⟨hk, q.2⟩
          rw [h3] at this; cases this
        · exact h3 q.1
end Go.Proofs.Ytkjkbpnhocjenaa


namespace Go.Proofs.Ytkjkbpnhocjenaa
open Go.X
set_option linter.unusedSimpArgs false
set_option linter.unusedVariables false
open P4
open P5
/-- An entry with the capacities of its lists. -/
structure Ep where
  (e : En) (c1 c2 : Nat)
deriving Inhabited
def encEp (F G : Nat) (X : List Ep) (k : Nat) : List C := [.i .i64 ((X.getD k default).e.off : Nat), .i .i64 ((X.getD k default).e.fi : Nat), .i .i64 ((X.getD k default).e.la : Nat), .sl F k 1 0 (X.getD k default).e.T.length (X.getD k default).c1, .sl G k 1 0 (X.getD k default).e.T.length (X.getD k default).c2]
abbrev epR (F G : Nat) (X : List Ep) (c : Nat) : Ck := .row true true 92 5 X.length c (encEp F G X)
def tpC (y : Ep) : Ck := stR true (y.e.T.map Prod.fst) y.c1
def cnC (y : Ep) : Ck := ntR true (y.e.T.map Prod.snd) y.c2
theorem tpF : FlatR tpC := fun _ => ⟨_, _, _, _, _, _, rfl⟩
theorem cnF : FlatR cnC := fun _ => ⟨_, _, _, _, _, _, rfl⟩
abbrev tpG (X : List Ep) (k : Nat) : Ck := ixG tpC X k
abbrev cnG (X : List Ep) (k : Nat) : Ck := ixG cnC X k
theorem tpG_rk (σ : List Sg) (N : Nat) (X : List Ep) (x : Nat) : (tpG X x).rk σ N = tpG X x := ixG_rk tpF σ N X x
theorem cnG_rk (σ : List Sg) (N : Nat) (X : List Ep) (x : Nat) : (cnG X x).rk σ N = cnG X x := ixG_rk cnF σ N X x
theorem xmC2 {p : Prop} (h : p := by first | exact fun _ => trivial | exact fun x => ixG_le tpF | exact fun x => ixG_bel tpF | exact fun x => ixG_belR tpF | exact fun x => ixG_le cnF | exact fun x => ixG_bel cnF | exact fun x => ixG_belR cnF | fail) : p := h
theorem encEp_rk1 (a b d : Nat) (r : List Sg) (N : Nat) (X : List Ep) (i : Nat) : List.map (C.rk (Sg.whole a :: Sg.whole b :: Sg.whole d :: r) N) (encEp 1 2 X i) = encEp b d X i := rfl
theorem encEp_rk2 (o a b d : Nat) (r : List Sg) (N : Nat) (X : List Ep) (i : Nat) : List.map (C.rk (Sg.whole o :: Sg.whole a :: Sg.whole b :: Sg.whole d :: r) N) (encEp 2 3 X i) = encEp b d X i := rfl
theorem epApp {σ : List Sg} {F F' G G' P Q : Nat} {X : List Ep} {y : Ep} {g : Nat → List C} (hk : ∀ i, i ≠ X.length → key σ 0 F' i = (F, i)) (hn : key σ 0 F' X.length = (P, 0)) (hk2 : ∀ i, i ≠ X.length → key σ 0 G' i = (G, i)) (hn2 : key σ 0 G' X.length = (Q, 0))
    (hg : g 0 = [.i .i64 (y.e.off : Nat), .i .i64 (y.e.fi : Nat), .i .i64 (y.e.la : Nat), .sl P 0 1 0 y.e.T.length y.c1, .sl Q 0 1 0 y.e.T.length y.c2]) : ∀ i, i < (X ++ [y]).length → appF X.length (encEp F G X) 0 g i = List.map (C.rk σ 0) (encEp F' G' (X ++ [y]) i) := by
  intro i hi
  unfold appF
  by_cases h : i < X.length
  · rw [if_pos h]
    have e : (X ++ [y]).getD i default = X.getD i default := by simp [List.getD, List.getElem?_append_left h]
    simp only [encEp, List.map_cons, List.map_nil, C.rk, e, hk i (by omega), hk2 i (by omega)]
  · obtain rfl : i = X.length := by simp at hi; omega
    rw [if_neg h, Nat.sub_self, hg]
    have e : (X ++ [y]).getD X.length default = y := by simp [List.getD]
    simp only [encEp, List.map_cons, List.map_nil, C.rk, e, hn, hn2]
abbrev es (X : List Ep) : List En := X.map Ep.e
theorem es_snoc (X : List Ep) (y : Ep) : es (X ++ [y]) = es X ++ [y.e] := by simp [es]
structure TlI (s : ByteArray) (k0 a0 e0 k a e : Nat) (U : List Tl) : Prop where
  le : a ≤ s.size
  len : U.length ≤ a + (if e = 0 then 0 else 1)
  q : tlN s k0 a0 e0 = (U ++ (tlN s k a e).1, (tlN s k a e).2)
theorem tlN_stop {s : ByteArray} {k a e : Nat} (h : k = 0 ∨ e ≠ 0) : tlN s k a e = ([], a, e) := by
  cases k with
  | zero => rfl
  | succ k =>
    unfold tlN
    rw [if_neg (by rcases h with h | h; omega; exact h)]
abbrev tlT (s : ByteArray) (a : Nat) : List UInt8 × Nat × Nat := rdT s a 0 40
abbrev tlM (s : ByteArray) (a : Nat) : Nat × Nat × Nat := rdAt s (tlT s a).2.1 (tlT s a).2.2
theorem TlI.step {s : ByteArray} {k0 a0 e0 k a : Nat} {U : List Tl} (h : TlI s k0 a0 e0 (k + 1) a 0 U) : TlI s k0 a0 e0 k (tlM s a).2.1 (tlM s a).2.2 (U ++ [((tlT s a).1, (tlM s a).1)]) := by
  have h1 := rdT_mono (e := 0) (m := 40) h.le
  have h2 := rdS_mono (e := (tlT s a).2.2) (m := 1099511627776) h1.2
  have hn := h.len
  rw [if_pos rfl] at hn
  have e1 : (tlM s a).2.1 = (rdS s (rdT s a 0 40).2.1 (tlT s a).2.2 1099511627776).2.1 := rfl
  have e3 : (tlT s a).2.1 = (rdT s a 0 40).2.1 := rfl
  refine ⟨h2.2, ?_, ?_⟩
  · rw [List.length_append, List.length_singleton]
    by_cases hp : (tlM s a).2.2 = 0
    · have h3 := rdS_pos hp
      rw [if_pos hp]
      have e2 : (rdS s (tlT s a).2.1 (tlT s a).2.2 1099511627776).2.1 = (rdS s (rdT s a 0 40).2.1 (tlT s a).2.2 1099511627776).2.1 := rfl
      rw [e1]
      omega
    · rw [if_neg hp]
      have e2 : (rdS s (tlT s a).2.1 (tlT s a).2.2 1099511627776).2.1 = (rdS s (rdT s a 0 40).2.1 (tlT s a).2.2 1099511627776).2.1 := rfl
      rw [e1]
      omega
  · rw [h.q]
    conv => lhs; unfold tlN
    rw [if_pos rfl]
    simp only [List.append_assoc, List.cons_append, List.nil_append]
structure EnI (s : ByteArray) (n0 a0 e0 n a e : Nat) (L : List En) : Prop where
  le : a ≤ s.size
  len : L.length ≤ a + (if e = 0 then 0 else 1)
  q : enN s n0 a0 e0 = (L ++ (enN s n a e).1, (enN s n a e).2)
theorem enN_stop {s : ByteArray} {k a e : Nat} (h : k = 0 ∨ e ≠ 0) : enN s k a e = ([], a, e) := by
  cases k with
  | zero => rfl
  | succ k =>
    unfold enN
    rw [if_neg (by rcases h with h | h; omega; exact h)]
theorem rdAt_mono {s : ByteArray} {a e : Nat} (h : a ≤ s.size) : a ≤ (rdAt s a e).2.1 ∧ (rdAt s a e).2.1 ≤ s.size := rdS_mono h
theorem sm_mono {s : ByteArray} {a e : Nat} (h : a ≤ s.size) : (sm1 s a e).2.1 ≤ s.size ∧ (sm2 s a e).2.1 ≤ s.size ∧ (sm3 s a e).2.1 ≤ s.size ∧ (sm4 s a e).2.1 ≤ s.size ∧ a ≤ (sm4 s a e).2.1 := by
  have h1 := rdAt_mono (e := e) h
  have h2 := rdAt_mono (e := (sm1 s a e).2.2) h1.2
  have h3 := rdAt_mono (e := (sm2 s a e).2.2) h2.2
  have h4 := rdAt_mono (e := (sm3 s a e).2.2) h3.2
  unfold sm4 sm3 sm2 sm1 at *
  omega
theorem sm_pos {s : ByteArray} {a e : Nat} (h : (sm4 s a e).2.2 = 0) : a + 1 ≤ (sm4 s a e).2.1 := by
  have h4 := rdS_pos h
  have h3 := rdS_pos h4.1
  have h2 := rdS_pos h3.1
  have h1 := rdS_pos h2.1
  have : (rdS s (sm3 s a e).2.1 (sm3 s a e).2.2 1099511627776).2.1 = (sm4 s a e).2.1 := rfl
  have : (rdS s (sm2 s a e).2.1 (sm2 s a e).2.2 1099511627776).2.1 = (sm3 s a e).2.1 := rfl
  have : (rdS s (sm1 s a e).2.1 (sm1 s a e).2.2 1099511627776).2.1 = (sm2 s a e).2.1 := rfl
  have : (rdS s a e 1099511627776).2.1 = (sm1 s a e).2.1 := rfl
  omega
theorem tlN_mono {s : ByteArray} : ∀ (k a e : Nat), a ≤ s.size → a ≤ (tlN s k a e).2.1 ∧ (tlN s k a e).2.1 ≤ s.size ∧ ((tlN s k a e).2.2 = 0 → e = 0)
  | 0, a, e, h => ⟨Nat.le_refl _, h, id⟩
  | k + 1, a, e, h => by
    unfold tlN
    split
    · rename_i he
      subst he
      have h1 := rdT_mono (e := 0) (m := 40) h
      have h2 := rdAt_mono (e := (rdT s a 0 40).2.2) h1.2
      have h3 := tlN_mono k _ (rdAt s (rdT s a 0 40).2.1 (rdT s a 0 40).2.2).2.2 h2.2
      exact ⟨by simp only; omega, h3.2.1, fun _ => rfl⟩
    · exact ⟨Nat.le_refl _, h, id⟩
theorem EnI.step {s : ByteArray} {n0 a0 e0 n a : Nat} {L : List En} (h : EnI s n0 a0 e0 (n + 1) a 0 L) : EnI s n0 a0 e0 n (enT s a 0).2.1 (enT s a 0).2.2 (L ++ [rdEn s a 0]) := by
  have hm := sm_mono (e := 0) h.le
  have ht := tlN_mono (s := s) (sm4 s a 0).1 (sm4 s a 0).2.1 (sm4 s a 0).2.2 hm.2.2.2.1
  have hn := h.len
  rw [if_pos rfl] at hn
  have e1 : enT s a 0 = tlN s (sm4 s a 0).1 (sm4 s a 0).2.1 (sm4 s a 0).2.2 := rfl
  refine ⟨by rw [e1]; exact ht.2.1, ?_, ?_⟩
  · rw [List.length_append, List.length_singleton]
    by_cases hp : (enT s a 0).2.2 = 0
    · rw [if_pos hp, e1]
      have := sm_pos (ht.2.2 (by rw [← e1]; exact hp))
      omega
    · rw [if_neg hp, e1]
      omega
  · rw [h.q]
    conv => lhs; unfold enN
    rw [if_pos rfl]
    simp only [List.append_assoc, List.cons_append, List.nil_append]
theorem rH41bK0 {σ : List Sg} {H h' : List Fam} {v : T} {K : T → List Fam → Prop} {H' : List Fam} {v' : T} {N : Nat} (hk : K v' H') (hN : H.length = N := by (try simp only [↓List.length_cons, ↓List.length_nil, Nat.reduceAdd]) <;> rfl) (h : givesF σ N H σ h' = some H' := by (try simp (maxSteps := 1000000) only [givesF, setF, updF, Fam.zeroth, Fam.rk, Ck.rk, C.rk, E.rk, T.rk, key, List.map_cons, List.map_nil, List.cons_append, List.nil_append, List.length_cons, List.length_nil, Option.map_some, Option.bind_some, Nat.reduceAdd, Nat.zero_add, Nat.add_zero, Nat.add_sub_cancel_left, Int.toNat_natCast, reps, List.all_cons, List.all_nil, C.flat, List.append_eq, Bool.not_true, Bool.and_true, Bool.or_false, Bool.or_self, Bool.not_false, List.append_nil, Bool.and_self, ↓tpG_rk, ↓cnG_rk]) <;> rfl) (hv : v.rk σ N = v' := by (try simp only [givesF, setF, updF, Fam.zeroth, Fam.rk, Ck.rk, C.rk, E.rk, T.rk, key, List.map_cons, List.map_nil, List.cons_append, List.nil_append, List.length_cons, List.length_nil, Option.map_some, Option.bind_some, Nat.reduceAdd, Nat.zero_add, Nat.add_zero, Nat.add_sub_cancel_left, Int.toNat_natCast, reps, List.all_cons, List.all_nil, C.flat, List.append_eq, Bool.not_true, Bool.and_true, Bool.or_false, Bool.or_self, Bool.not_false, List.append_nil, Bool.and_self, ↓tpG_rk, ↓cnG_rk]) <;> rfl) : RetG σ H h' v K := ret_mk3 hN h hv hk
theorem rH41bK1 {σ : List Sg} {H h' : List Fam} {v : T} {K : T → List Fam → Prop} {H' : List Fam} {v' : T} {N : Nat} (hk : K v' H') (hN : H.length = N := by (try simp only [↓List.length_cons, ↓List.length_nil, Nat.reduceAdd]) <;> rfl) (h : givesF σ N H σ h' = some H' := by (try simp (maxSteps := 1000000) only [givesF, setF, updF, Fam.zeroth, Fam.rk, Ck.rk, C.rk, E.rk, T.rk, key, List.map_cons, List.map_nil, List.cons_append, List.nil_append, List.length_cons, List.length_nil, Option.map_some, Option.bind_some, Nat.reduceAdd, Nat.zero_add, Nat.add_zero, Nat.add_sub_cancel_left, Int.toNat_natCast, reps, List.all_cons, List.all_nil, C.flat, List.append_eq, Bool.not_true, Bool.and_true, Bool.or_false, Bool.or_self, Bool.not_false, List.append_nil, Bool.and_self, ↓tpG_rk, ↓cnG_rk, encEp_rk1]) <;> rfl) (hv : v.rk σ N = v' := by (try simp only [givesF, setF, updF, Fam.zeroth, Fam.rk, Ck.rk, C.rk, E.rk, T.rk, key, List.map_cons, List.map_nil, List.cons_append, List.nil_append, List.length_cons, List.length_nil, Option.map_some, Option.bind_some, Nat.reduceAdd, Nat.zero_add, Nat.add_zero, Nat.add_sub_cancel_left, Int.toNat_natCast, reps, List.all_cons, List.all_nil, C.flat, List.append_eq, Bool.not_true, Bool.and_true, Bool.or_false, Bool.or_self, Bool.not_false, List.append_nil, Bool.and_self, ↓tpG_rk, ↓cnG_rk, encEp_rk1]) <;> rfl) : RetG σ H h' v K := ret_mk3 hN h hv hk
theorem cH41bK2 {P : Program} {F : Nat} {args : List T} {H : List Fam} {K : T → List Fam → Prop} {σ : List Sg} {nl : List Fam} {args0 : List T} {h0 : List Fam} {Q : T → List Fam → Prop} {H2 H1 : List Fam} {N n : Nat} (hc : Ctr P F args0 h0 Q) (hk : ∀ v h', Q v h' → capsP h' → RetG σ H2 h' v K) (hap : apart σ = true := by rfl) (hnl : nl.all nilB = true := by rfl) (h1 : H ++ nl = H1 := by first | exact List.append_nil _ | ((try simp only [List.cons_append, List.nil_append]) <;> rfl)) (hN : H1.length = N := by (try simp only [↓List.length_cons, ↓List.length_nil, Nat.reduceAdd]) <;> rfl) (hn : H.length = n := by (try simp only [↓List.length_cons, ↓List.length_nil, Nat.reduceAdd]) <;> rfl) (hH : givesF σ N H1 σ h0 = some H2 := by (try simp (maxSteps := 1000000) only [givesF, setF, updF, Fam.zeroth, Fam.rk, Ck.rk, C.rk, E.rk, T.rk, key, List.map_cons, List.map_nil, List.cons_append, List.nil_append, List.length_cons, List.length_nil, Option.map_some, Option.bind_some, Nat.reduceAdd, Nat.zero_add, Nat.add_zero, Nat.add_sub_cancel_left, Int.toNat_natCast, reps, List.all_cons, List.all_nil, C.flat, List.append_eq, Bool.not_true, Bool.and_true, Bool.or_false, Bool.or_self, Bool.not_false, List.append_nil, Bool.and_self, ↓tpG_rk, ↓cnG_rk]) <;> rfl) (hle : leS n H1 σ N σ h0 (belsK N (h0.map (Fam.rk σ N)) (argsK n args (args0.map (T.rk σ N)) True)) := by repeat' first | refine And.intro ?_ ?_ | exact xeC | fail) : CallK P F args H K := CallK.mk3 hc hap hnl h1 hN hn hH hle hk
set_option maxRecDepth 10000 in
set_option maxHeartbeats 8000000 in
theorem creadIndex (s : ByteArray) (hs : s.size ≤ 100000000) :
    Ctr Try.prog 46 [.c (.s s)] []
      fun v h => ∃ X c, es X = (ixL s).1 ∧ v = .t [.c (.sl 0 0 5 0 X.length c), .c (.b (ixL s).2)] ∧ h = [.one (epR 1 2 X c), .many (tpG X), .many (cnG X)] := by
  have hle := rdU_le (s := s) (a := 0) (e := 0) (Nat.zero_le _)
  refine Ctr.mk' tbv mixed Try.func46 rfl rfl rfl (fun _ _ => by kernel_rfl) (by kernel_rfl) (by rfl) (by rfl) (by (repeat' first | refine And.intro ?_ ?_ | exact xeC | fail)) ?_
  repeat' (first | (fail_if_success (with_reducible refine xstp ?_)); first | ((with_reducible refine And.intro (fun (hb : _ = true) => ?_) (fun (hb : _ = false) => ?_)) <;> replace hb := xnC hb <;> (try first | exact xfC | exact bff hb (by assumption) | exact bff (by assumption) hb)) | (with_reducible refine Both.mk ?_ ?_) | ((with_reducible refine And.intro ?_ ?_); focus exact xoC) | ((with_reducible refine Or.inl ⟨?_, ?_, ?_⟩); (focus rfl); focus exact xaC) | ((with_reducible refine xwB ?_ ?_); focus exact xaC) | ((with_reducible refine xwC ?_ ?_); focus exact xaC) | ((with_reducible refine xwD ?_ ?_); focus exact xaC) | ((with_reducible refine xwE ?_ ?_); focus exact xaC) | (with_reducible intro hc; (try simp only [capsP, and_true] at hc); (try exact xfC)) | ((fail_if_success (with_reducible first | refine xgon ?_ | intro _)); (conv => whnf); (fail_if_success (fail_if_success (with_reducible first | refine xstp ?_ | refine Both.mk ?_ ?_ | refine xgon ?_ | intro _)))))
  refine cH41bK2 (σ := []) (nl := []) (cNew s) ?_
  rintro v h' ⟨rfl, rfl⟩ hcaps
  refine rH41bK0 ?_
  repeat' (first | (fail_if_success (with_reducible refine xstp ?_)); first | ((with_reducible refine And.intro (fun (hb : _ = true) => ?_) (fun (hb : _ = false) => ?_)) <;> replace hb := xnC hb <;> (try first | exact xfC | exact bff hb (by assumption) | exact bff (by assumption) hb)) | (with_reducible refine Both.mk ?_ ?_) | ((with_reducible refine And.intro ?_ ?_); focus exact xoC) | ((with_reducible refine Or.inl ⟨?_, ?_, ?_⟩); (focus rfl); focus exact xaC) | ((with_reducible refine xwB ?_ ?_); focus exact xaC) | ((with_reducible refine xwC ?_ ?_); focus exact xaC) | ((with_reducible refine xwD ?_ ?_); focus exact xaC) | ((with_reducible refine xwE ?_ ?_); focus exact xaC) | (with_reducible intro hc; (try simp only [capsP, and_true] at hc); (try exact xfC)) | ((fail_if_success (with_reducible first | refine xgon ?_ | intro _)); (conv => whnf); (fail_if_success (fail_if_success (with_reducible first | refine xstp ?_ | refine Both.mk ?_ ?_ | refine xgon ?_ | intro _)))))
  refine cH41bK2 (σ := [.whole 0]) (nl := []) (crUint s 0 0 (Nat.zero_le _) (by omega)) ?_
  rintro v h' ⟨rfl, rfl⟩ hcaps
  refine rH41bK0 ?_
  repeat' (first | (fail_if_success (with_reducible refine xstp ?_)); first | ((with_reducible refine And.intro (fun (hb : _ = true) => ?_) (fun (hb : _ = false) => ?_)) <;> replace hb := xnC hb <;> (try first | exact xfC | exact bff hb (by assumption) | exact bff (by assumption) hb)) | (with_reducible refine Both.mk ?_ ?_) | ((with_reducible refine And.intro ?_ ?_); focus exact xoC) | ((with_reducible refine Or.inl ⟨?_, ?_, ?_⟩); (focus rfl); focus exact xaC) | ((with_reducible refine xwB ?_ ?_); focus exact xaC) | ((with_reducible refine xwC ?_ ?_); focus exact xaC) | ((with_reducible refine xwD ?_ ?_); focus exact xaC) | ((with_reducible refine xwE ?_ ?_); focus exact xaC) | (with_reducible intro hc; (try simp only [capsP, and_true] at hc); (try exact xfC)) | ((fail_if_success (with_reducible first | refine xgon ?_ | intro _)); (conv => whnf); (fail_if_success (fail_if_success (with_reducible first | refine xstp ?_ | refine Both.mk ?_ ?_ | refine xgon ?_ | intro _)))))
  · have hI : ixL s = ([], false) := if_neg (by omega)
    rw [hI]
    refine FinK.mk ⟨[99, 98, 97], _, _, ⟨[], 0, rfl, rfl, rfl⟩, ?_⟩
    (repeat' first | refine And.intro ?_ ?_ | exact xeC | fail)
    all_goals first
      | exact xmC2
      | exact fun x => if_neg (Nat.not_lt_zero x)
      | skip
  have h2 : (rdU s 0 0).1 = 2 := by omega
  have hm1 := rdAt_mono (e := (rdU s 0 0).2.2) hle.1
  refine cH41bK2 (σ := [.whole 0]) (nl := []) (crAt s (rdU s 0 0).2.1 (rdU s 0 0).2.2 hle.1 (by omega)) ?_
  rintro v h' ⟨rfl, rfl⟩ hcaps
  refine rH41bK0 ?_
  repeat' (first | (fail_if_success (with_reducible refine xstp ?_)); first | ((with_reducible refine And.intro (fun (hb : _ = true) => ?_) (fun (hb : _ = false) => ?_)) <;> replace hb := xnC hb <;> (try first | exact xfC | exact bff hb (by assumption) | exact bff (by assumption) hb)) | (with_reducible refine Both.mk ?_ ?_) | ((with_reducible refine And.intro ?_ ?_); focus exact xoC) | ((with_reducible refine Or.inl ⟨?_, ?_, ?_⟩); (focus rfl); focus exact xaC) | ((with_reducible refine xwB ?_ ?_); focus exact xaC) | ((with_reducible refine xwC ?_ ?_); focus exact xaC) | ((with_reducible refine xwD ?_ ?_); focus exact xaC) | ((with_reducible refine xwE ?_ ?_); focus exact xaC) | (with_reducible intro hc; (try simp only [capsP, and_true] at hc); (try exact xfC)) | ((fail_if_success (with_reducible first | refine xgon ?_ | intro _)); (conv => whnf); (fail_if_success (fail_if_success (with_reducible first | refine xstp ?_ | refine Both.mk ?_ ?_ | refine xgon ?_ | intro _)))))
  have hI : ixL s = (_, _) := if_pos h2
  generalize hr0 : rdAt s (rdU s 0 0).2.1 (rdU s 0 0).2.2 = r0 at *
  have hn0 := rdAt_le s (rdU s 0 0).2.1 (rdU s 0 0).2.2
  rw [hr0] at hn0
  obtain ⟨n0, a0, e0⟩ := r0
  simp only at hI hm1 hn0
  have hn0 : n0 ≤ 1099511627776 := by omega
  refine LoopK.mk' {p : Nat × Nat × Nat × List Ep × Nat // p.1 ≤ 1099511627776 ∧ EnI s n0 a0 e0 p.1 p.2.1 p.2.2.1 (es p.2.2.2.1)}
    (fun ⟨(n, a, e, X, c), _⟩ => ⟨[(4, .c (.p 0 0 0)), (5, .c (.sl 1 0 5 0 X.length c)), (6, .c (.i .i64 (n : Nat)))], [.one (rdC s a e), .one (epR 2 3 X c), .many (tpG X), .many (cnG X)]⟩) (fun p => p.1.1)
    ⟨⟨(n0, a0, e0, [], 0), hn0, ⟨hm1.2, Nat.zero_le _, rfl⟩⟩, [0, 99, 98, 97], ?_⟩ ?_
  · (repeat' first | refine And.intro ?_ ?_ | exact xeC | fail)
    all_goals first
      | exact xmC2
      | (intro i hi; exact absurd hi (Nat.not_lt_zero i))
      | exact fun x => if_neg (Nat.not_lt_zero x)
      | skip
  rintro ⟨⟨n, a, e, X, c⟩, hnm, hE⟩
  simp only at hnm hE
  have ha := hE.le
  have hn := hE.len
  have hXl : (es X).length = X.length := List.length_map _
  repeat' (first | (fail_if_success (with_reducible refine xstp ?_)); first | ((with_reducible refine And.intro (fun (hb : _ = true) => ?_) (fun (hb : _ = false) => ?_)) <;> replace hb := xnC hb <;> (try first | exact xfC | exact bff hb (by assumption) | exact bff (by assumption) hb)) | (with_reducible refine Both.mk ?_ ?_) | ((with_reducible refine And.intro ?_ ?_); focus exact xoC) | ((with_reducible refine Or.inl ⟨?_, ?_, ?_⟩); (focus rfl); focus exact xaC) | ((with_reducible refine xwB ?_ ?_); focus exact xaC) | ((with_reducible refine xwC ?_ ?_); focus exact xaC) | ((with_reducible refine xwD ?_ ?_); focus exact xaC) | ((with_reducible refine xwE ?_ ?_); focus exact xaC) | (with_reducible intro hc; (try simp only [capsP, and_true] at hc); (try exact xfC)) | ((fail_if_success (with_reducible first | refine xgon ?_ | intro _)); (conv => whnf); (fail_if_success (fail_if_success (with_reducible first | refine xstp ?_ | refine Both.mk ?_ ?_ | refine xgon ?_ | intro _)))))
  · refine cH41bK2 (σ := [.whole 0]) (nl := []) (cErr s a e) ?_ (hle := by (repeat' first | refine And.intro ?_ ?_ | exact xeC | fail) <;> exact xmC2)
    rintro v h' ⟨rfl, rfl⟩ hcaps
    refine rH41bK0 ?_
    repeat' (first | (fail_if_success (with_reducible refine xstp ?_)); first | ((with_reducible refine And.intro (fun (hb : _ = true) => ?_) (fun (hb : _ = false) => ?_)) <;> replace hb := xnC hb <;> (try first | exact xfC | exact bff hb (by assumption) | exact bff (by assumption) hb)) | (with_reducible refine Both.mk ?_ ?_) | ((with_reducible refine And.intro ?_ ?_); focus exact xoC) | ((with_reducible refine Or.inl ⟨?_, ?_, ?_⟩); (focus rfl); focus exact xaC) | ((with_reducible refine xwB ?_ ?_); focus exact xaC) | ((with_reducible refine xwC ?_ ?_); focus exact xaC) | ((with_reducible refine xwD ?_ ?_); focus exact xaC) | ((with_reducible refine xwE ?_ ?_); focus exact xaC) | (with_reducible intro hc; (try simp only [capsP, and_true] at hc); (try exact xfC)) | ((fail_if_success (with_reducible first | refine xgon ?_ | intro _)); (conv => whnf); (fail_if_success (fail_if_success (with_reducible first | refine xstp ?_ | refine Both.mk ?_ ?_ | refine xgon ?_ | intro _)))))
    · obtain rfl : e = 0 := by omega
      obtain ⟨m, rfl⟩ : ∃ m, n = m + 1 := ⟨n - 1, by omega⟩
      have hsm := sm_mono (s := s) (a := a) (e := 0) ha
      have hsp := sm_pos (s := s) (a := a) (e := 0)
      have hk0 : (sm4 s a 0).1 ≤ 1099511627776 := by have := rdAt_le s (sm3 s a 0).2.1 (sm3 s a 0).2.2; unfold sm4; omega
      rw [if_pos rfl] at hn
      refine cH41bK2 (σ := [.whole 0]) (nl := []) (crAt s a 0 ha (by omega)) ?_ (hle := by (repeat' first | refine And.intro ?_ ?_ | exact xeC | fail) <;> exact xmC2)
      rintro v h' ⟨rfl, rfl⟩ hcaps
      refine rH41bK0 ?_
      repeat' (first | (fail_if_success (with_reducible refine xstp ?_)); first | ((with_reducible refine And.intro (fun (hb : _ = true) => ?_) (fun (hb : _ = false) => ?_)) <;> replace hb := xnC hb <;> (try first | exact xfC | exact bff hb (by assumption) | exact bff (by assumption) hb)) | (with_reducible refine Both.mk ?_ ?_) | ((with_reducible refine And.intro ?_ ?_); focus exact xoC) | ((with_reducible refine Or.inl ⟨?_, ?_, ?_⟩); (focus rfl); focus exact xaC) | ((with_reducible refine xwB ?_ ?_); focus exact xaC) | ((with_reducible refine xwC ?_ ?_); focus exact xaC) | ((with_reducible refine xwD ?_ ?_); focus exact xaC) | ((with_reducible refine xwE ?_ ?_); focus exact xaC) | (with_reducible intro hc; (try simp only [capsP, and_true] at hc); (try exact xfC)) | ((fail_if_success (with_reducible first | refine xgon ?_ | intro _)); (conv => whnf); (fail_if_success (fail_if_success (with_reducible first | refine xstp ?_ | refine Both.mk ?_ ?_ | refine xgon ?_ | intro _)))))
      refine cH41bK2 (σ := [.whole 0]) (nl := []) (crAt s (sm1 s a 0).2.1 (sm1 s a 0).2.2 hsm.1 (by omega)) ?_ (hle := by (repeat' first | refine And.intro ?_ ?_ | exact xeC | fail) <;> exact xmC2)
      rintro v h' ⟨rfl, rfl⟩ hcaps
      refine rH41bK0 ?_
      repeat' (first | (fail_if_success (with_reducible refine xstp ?_)); first | ((with_reducible refine And.intro (fun (hb : _ = true) => ?_) (fun (hb : _ = false) => ?_)) <;> replace hb := xnC hb <;> (try first | exact xfC | exact bff hb (by assumption) | exact bff (by assumption) hb)) | (with_reducible refine Both.mk ?_ ?_) | ((with_reducible refine And.intro ?_ ?_); focus exact xoC) | ((with_reducible refine Or.inl ⟨?_, ?_, ?_⟩); (focus rfl); focus exact xaC) | ((with_reducible refine xwB ?_ ?_); focus exact xaC) | ((with_reducible refine xwC ?_ ?_); focus exact xaC) | ((with_reducible refine xwD ?_ ?_); focus exact xaC) | ((with_reducible refine xwE ?_ ?_); focus exact xaC) | (with_reducible intro hc; (try simp only [capsP, and_true] at hc); (try exact xfC)) | ((fail_if_success (with_reducible first | refine xgon ?_ | intro _)); (conv => whnf); (fail_if_success (fail_if_success (with_reducible first | refine xstp ?_ | refine Both.mk ?_ ?_ | refine xgon ?_ | intro _)))))
      refine cH41bK2 (σ := [.whole 0]) (nl := []) (crAt s (sm2 s a 0).2.1 (sm2 s a 0).2.2 hsm.2.1 (by omega)) ?_ (hle := by (repeat' first | refine And.intro ?_ ?_ | exact xeC | fail) <;> exact xmC2)
      rintro v h' ⟨rfl, rfl⟩ hcaps
      refine rH41bK0 ?_
      repeat' (first | (fail_if_success (with_reducible refine xstp ?_)); first | ((with_reducible refine And.intro (fun (hb : _ = true) => ?_) (fun (hb : _ = false) => ?_)) <;> replace hb := xnC hb <;> (try first | exact xfC | exact bff hb (by assumption) | exact bff (by assumption) hb)) | (with_reducible refine Both.mk ?_ ?_) | ((with_reducible refine And.intro ?_ ?_); focus exact xoC) | ((with_reducible refine Or.inl ⟨?_, ?_, ?_⟩); (focus rfl); focus exact xaC) | ((with_reducible refine xwB ?_ ?_); focus exact xaC) | ((with_reducible refine xwC ?_ ?_); focus exact xaC) | ((with_reducible refine xwD ?_ ?_); focus exact xaC) | ((with_reducible refine xwE ?_ ?_); focus exact xaC) | (with_reducible intro hc; (try simp only [capsP, and_true] at hc); (try exact xfC)) | ((fail_if_success (with_reducible first | refine xgon ?_ | intro _)); (conv => whnf); (fail_if_success (fail_if_success (with_reducible first | refine xstp ?_ | refine Both.mk ?_ ?_ | refine xgon ?_ | intro _)))))
      refine cH41bK2 (σ := [.whole 0]) (nl := []) (crAt s (sm3 s a 0).2.1 (sm3 s a 0).2.2 hsm.2.2.1 (by omega)) ?_ (hle := by (repeat' first | refine And.intro ?_ ?_ | exact xeC | fail) <;> exact xmC2)
      rintro v h' ⟨rfl, rfl⟩ hcaps
      refine rH41bK0 ?_
      repeat' (first | (fail_if_success (with_reducible refine xstp ?_)); first | ((with_reducible refine And.intro (fun (hb : _ = true) => ?_) (fun (hb : _ = false) => ?_)) <;> replace hb := xnC hb <;> (try first | exact xfC | exact bff hb (by assumption) | exact bff (by assumption) hb)) | (with_reducible refine Both.mk ?_ ?_) | ((with_reducible refine And.intro ?_ ?_); focus exact xoC) | ((with_reducible refine Or.inl ⟨?_, ?_, ?_⟩); (focus rfl); focus exact xaC) | ((with_reducible refine xwB ?_ ?_); focus exact xaC) | ((with_reducible refine xwC ?_ ?_); focus exact xaC) | ((with_reducible refine xwD ?_ ?_); focus exact xaC) | ((with_reducible refine xwE ?_ ?_); focus exact xaC) | (with_reducible intro hc; (try simp only [capsP, and_true] at hc); (try exact xfC)) | ((fail_if_success (with_reducible first | refine xgon ?_ | intro _)); (conv => whnf); (fail_if_success (fail_if_success (with_reducible first | refine xstp ?_ | refine Both.mk ?_ ?_ | refine xgon ?_ | intro _)))))
      refine LoopK.mk' {p : Nat × Nat × Nat × List Tl × Nat × Nat // p.1 ≤ 1099511627776 ∧ TlI s (sm4 s a 0).1 (sm4 s a 0).2.1 (sm4 s a 0).2.2 p.1 p.2.1 p.2.2.1 p.2.2.2.1}
        (fun ⟨(k, a1, e1, U, c1, c2), _⟩ => ⟨[(4, .c (.p 0 0 0)), (5, .c (.sl 1 0 5 0 X.length c)), (6, .c (.i .i64 ((m + 1 : Nat) : Int))), (7, .c (.p 4 0 0)), (8, .c (.i .i64 (k : Nat)))],
          [.one (rdC s a1 e1), .one (epR 2 3 X c), .many (tpG X), .many (cnG X), .one (.cells true [.i .i64 ((sm1 s a 0).1 : Nat), .i .i64 ((sm2 s a 0).1 : Nat), .i .i64 ((sm3 s a 0).1 : Nat), .sl 5 0 1 0 (U.map Prod.fst).length c1, .sl 6 0 1 0 (U.map Prod.snd).length c2]), .one (stR true (U.map Prod.fst) c1), .one (ntR true (U.map Prod.snd) c2)]⟩) (fun p => p.1.1)
        ⟨⟨((sm4 s a 0).1, (sm4 s a 0).2.1, (sm4 s a 0).2.2, [], 0, 0), hk0, ⟨hsm.2.2.2.1, Nat.zero_le _, rfl⟩⟩, [0, 1, 2, 3, 4, 99, 98], ?_⟩ ?_
      · (repeat' first | refine And.intro ?_ ?_ | exact xeC | fail)
        all_goals first
          | exact xmC2
          | (intro i hi; exact absurd hi (Nat.not_lt_zero i))
          | skip
      rintro ⟨⟨k, a1, e1, U, c1, c2⟩, hkm, hT⟩
      simp only at hkm hT
      have ha1 := hT.le
      have hn1 := hT.len
      have hU1 : (U.map Prod.fst).length = U.length := List.length_map _
      have hU2 : (U.map Prod.snd).length = U.length := List.length_map _
      repeat' (first | (fail_if_success (with_reducible refine xstp ?_)); first | ((with_reducible refine And.intro (fun (hb : _ = true) => ?_) (fun (hb : _ = false) => ?_)) <;> replace hb := xnC hb <;> (try first | exact xfC | exact bff hb (by assumption) | exact bff (by assumption) hb)) | (with_reducible refine Both.mk ?_ ?_) | ((with_reducible refine And.intro ?_ ?_); focus exact xoC) | ((with_reducible refine Or.inl ⟨?_, ?_, ?_⟩); (focus rfl); focus exact xaC) | ((with_reducible refine xwB ?_ ?_); focus exact xaC) | ((with_reducible refine xwC ?_ ?_); focus exact xaC) | ((with_reducible refine xwD ?_ ?_); focus exact xaC) | ((with_reducible refine xwE ?_ ?_); focus exact xaC) | (with_reducible intro hc; (try simp only [capsP, and_true] at hc); (try exact xfC)) | ((fail_if_success (with_reducible first | refine xgon ?_ | intro _)); (conv => whnf); (fail_if_success (fail_if_success (with_reducible first | refine xstp ?_ | refine Both.mk ?_ ?_ | refine xgon ?_ | intro _)))))
      · refine cH41bK2 (σ := [.whole 0]) (nl := []) (cErr s a1 e1) ?_ (hle := by (repeat' first | refine And.intro ?_ ?_ | exact xeC | fail) <;> exact xmC2)
        rintro v h' ⟨rfl, rfl⟩ hcaps
        refine rH41bK0 ?_
        repeat' (first | (fail_if_success (with_reducible refine xstp ?_)); first | ((with_reducible refine And.intro (fun (hb : _ = true) => ?_) (fun (hb : _ = false) => ?_)) <;> replace hb := xnC hb <;> (try first | exact xfC | exact bff hb (by assumption) | exact bff (by assumption) hb)) | (with_reducible refine Both.mk ?_ ?_) | ((with_reducible refine And.intro ?_ ?_); focus exact xoC) | ((with_reducible refine Or.inl ⟨?_, ?_, ?_⟩); (focus rfl); focus exact xaC) | ((with_reducible refine xwB ?_ ?_); focus exact xaC) | ((with_reducible refine xwC ?_ ?_); focus exact xaC) | ((with_reducible refine xwD ?_ ?_); focus exact xaC) | ((with_reducible refine xwE ?_ ?_); focus exact xaC) | (with_reducible intro hc; (try simp only [capsP, and_true] at hc); (try exact xfC)) | ((fail_if_success (with_reducible first | refine xgon ?_ | intro _)); (conv => whnf); (fail_if_success (fail_if_success (with_reducible first | refine xstp ?_ | refine Both.mk ?_ ?_ | refine xgon ?_ | intro _)))))
        · obtain rfl : e1 = 0 := by omega
          obtain ⟨j, rfl⟩ : ∃ j, k = j + 1 := ⟨k - 1, by omega⟩
          rw [if_pos rfl] at hn1
          have htm := rdT_mono (e := 0) (m := 40) ha1
          refine cH41bK2 (σ := [.whole 0]) (nl := []) (crText s a1 0 40 ha1 (by omega) (by omega)) ?_ (hle := by (repeat' first | refine And.intro ?_ ?_ | exact xeC | fail) <;> exact xmC2)
          rintro v h' ⟨rfl, rfl⟩ hcaps
          refine rH41bK0 ?_
          repeat' (first | (fail_if_success (with_reducible refine xstp ?_)); first | ((with_reducible refine And.intro (fun (hb : _ = true) => ?_) (fun (hb : _ = false) => ?_)) <;> replace hb := xnC hb <;> (try first | exact xfC | exact bff hb (by assumption) | exact bff (by assumption) hb)) | (with_reducible refine Both.mk ?_ ?_) | ((with_reducible refine And.intro ?_ ?_); focus exact xoC) | ((with_reducible refine Or.inl ⟨?_, ?_, ?_⟩); (focus rfl); focus exact xaC) | ((with_reducible refine xwB ?_ ?_); focus exact xaC) | ((with_reducible refine xwC ?_ ?_); focus exact xaC) | ((with_reducible refine xwD ?_ ?_); focus exact xaC) | ((with_reducible refine xwE ?_ ?_); focus exact xaC) | (with_reducible intro hc; (try simp only [capsP, and_true] at hc); (try exact xfC)) | ((fail_if_success (with_reducible first | refine xgon ?_ | intro _)); (conv => whnf); (fail_if_success (fail_if_success (with_reducible first | refine xstp ?_ | refine Both.mk ?_ ?_ | refine xgon ?_ | intro _)))))
          refine cH41bK2 (σ := [.whole 0]) (nl := []) (crAt s (tlT s a1).2.1 (tlT s a1).2.2 htm.2 (by omega)) ?_ (hle := by (repeat' first | refine And.intro ?_ ?_ | exact xeC | fail) <;> exact xmC2)
          rintro v h' ⟨rfl, rfl⟩ hcaps
          refine rH41bK1 ?_
          repeat' (first | (fail_if_success (with_reducible refine xstp ?_)); first | ((with_reducible refine And.intro (fun (hb : _ = true) => ?_) (fun (hb : _ = false) => ?_)) <;> replace hb := xnC hb <;> (try first | exact xfC | exact bff hb (by assumption) | exact bff (by assumption) hb)) | (with_reducible refine Both.mk ?_ ?_) | ((with_reducible refine And.intro ?_ ?_); focus exact xoC) | ((with_reducible refine Or.inl ⟨?_, ?_, ?_⟩); (focus rfl); focus exact xaC) | ((with_reducible refine xwB ?_ ?_); focus exact xaC) | ((with_reducible refine xwC ?_ ?_); focus exact xaC) | ((with_reducible refine xwD ?_ ?_); focus exact xaC) | ((with_reducible refine xwE ?_ ?_); focus exact xaC) | (with_reducible intro hc; (try simp only [capsP, and_true] at hc); (try exact xfC)) | ((fail_if_success (with_reducible first | refine xgon ?_ | intro _)); (conv => whnf); (fail_if_success (fail_if_success (with_reducible first | refine xstp ?_ | refine Both.mk ?_ ?_ | refine xgon ?_ | intro _)))))
          rename_i c3 _ _ c4
          refine ⟨⟨(j, (tlM s a1).2.1, (tlM s a1).2.2, U ++ [((tlT s a1).1, (tlM s a1).1)], c3, c4), by omega, hT.step⟩, [0, 1, 2, 3, 4, 8, 10], by simp only; omega, ?_⟩
          simp only [List.map_append, List.map_cons, List.map_nil]
          (repeat' first | refine And.intro ?_ ?_ | exact xeC | fail)
          all_goals first
            | exact xmC2
            | skip
          all_goals first | omega | (simp only [List.length_append, List.length_singleton]; done) | (rw [List.length_append, List.length_singleton]; omega) | (intro i hi; (first | refine app_rowG _ _ _ _ ?_ i hi | refine app_row _ _ _ ?_ i hi); first | rfl | (simp only [Int.toNat_natCast, Nat.zero_add]; rfl))
        · skip
          have hst2 : tlN s k a1 e1 = ([], a1, e1) := tlN_stop (by omega)
          have hq2 := hT.q
          rw [hst2] at hq2
          simp only [List.append_nil] at hq2
          have hen : enT s a 0 = (U, a1, e1) := hq2
          have hrd : rdEn s a 0 = ⟨(sm1 s a 0).1, (sm2 s a 0).1, (sm3 s a 0).1, U⟩ := by unfold rdEn; rw [hen]
          have hE2 := hE.step
          rw [hen, hrd] at hE2
          repeat' (first | (fail_if_success (with_reducible refine xstp ?_)); first | ((with_reducible refine And.intro (fun (hb : _ = true) => ?_) (fun (hb : _ = false) => ?_)) <;> replace hb := xnC hb <;> (try first | exact xfC | exact bff hb (by assumption) | exact bff (by assumption) hb)) | (with_reducible refine Both.mk ?_ ?_) | ((with_reducible refine And.intro ?_ ?_); focus exact xoC) | ((with_reducible refine Or.inl ⟨?_, ?_, ?_⟩); (focus rfl); focus exact xaC) | ((with_reducible refine xwB ?_ ?_); focus exact xaC) | ((with_reducible refine xwC ?_ ?_); focus exact xaC) | ((with_reducible refine xwD ?_ ?_); focus exact xaC) | ((with_reducible refine xwE ?_ ?_); focus exact xaC) | (with_reducible intro hc; (try simp only [capsP, and_true] at hc); (try exact xfC)) | ((fail_if_success (with_reducible first | refine xgon ?_ | intro _)); (conv => whnf); (fail_if_success (fail_if_success (with_reducible first | refine xstp ?_ | refine Both.mk ?_ ?_ | refine xgon ?_ | intro _)))))
          rename_i c3
          refine ⟨⟨(m, a1, e1, X ++ [⟨⟨(sm1 s a 0).1, (sm2 s a 0).1, (sm3 s a 0).1, U⟩, c1, c2⟩], c3), by omega, by show EnI s n0 a0 e0 m a1 e1 (es (X ++ [_])); rw [es_snoc]; exact hE2⟩, [0, 8, .adopt 2 X.length 5, .adopt 3 X.length 6], by simp only; omega, ?_⟩
          (repeat' first | refine And.intro ?_ ?_ | exact xeC | fail)
          all_goals first
            | exact xmC2
            | omega
            | (rw [List.length_append, List.length_singleton]; done)
            | (rw [List.length_append, List.length_singleton]; omega)
            | exact epApp (F := 2) (G := 3) (P := 5) (Q := 6) (fun i hi => by simp [key, hi]) (by simp [key]) (fun i hi => by simp [key, hi]) (by simp [key]) (by rw [hU1, hU2]; rfl)
            | exact fun x hx => ixG_leA tpF hx
            | exact fun x hx => ixG_leA cnF hx
            | skip
          refine ixG_leAn tpF ?_
          refine ⟨rfl, rfl, rfl, rfl, Nat.le_refl _, rfl, fun _ _ => rfl, ?_⟩
          (repeat' first | refine And.intro ?_ ?_ | exact xeC | fail)
          all_goals first
            | exact xmC2
            | exact fun x hx => ixG_leA cnF hx
            | skip
          refine ixG_leAn cnF ?_
          refine ⟨rfl, rfl, rfl, rfl, Nat.le_refl _, rfl, fun _ _ => rfl, ?_⟩
          (repeat' first | refine And.intro ?_ ?_ | exact xeC | fail)
          all_goals first
            | exact xmC2
            | omega
            | (rw [List.length_append, List.length_singleton]; done)
            | skip
      · skip
        have hst2 : tlN s k a1 e1 = ([], a1, e1) := tlN_stop (by omega)
        have hq2 := hT.q
        rw [hst2] at hq2
        simp only [List.append_nil] at hq2
        have hen : enT s a 0 = (U, a1, e1) := hq2
        have hrd : rdEn s a 0 = ⟨(sm1 s a 0).1, (sm2 s a 0).1, (sm3 s a 0).1, U⟩ := by unfold rdEn; rw [hen]
        have hE2 := hE.step
        rw [hen, hrd] at hE2
        repeat' (first | (fail_if_success (with_reducible refine xstp ?_)); first | ((with_reducible refine And.intro (fun (hb : _ = true) => ?_) (fun (hb : _ = false) => ?_)) <;> replace hb := xnC hb <;> (try first | exact xfC | exact bff hb (by assumption) | exact bff (by assumption) hb)) | (with_reducible refine Both.mk ?_ ?_) | ((with_reducible refine And.intro ?_ ?_); focus exact xoC) | ((with_reducible refine Or.inl ⟨?_, ?_, ?_⟩); (focus rfl); focus exact xaC) | ((with_reducible refine xwB ?_ ?_); focus exact xaC) | ((with_reducible refine xwC ?_ ?_); focus exact xaC) | ((with_reducible refine xwD ?_ ?_); focus exact xaC) | ((with_reducible refine xwE ?_ ?_); focus exact xaC) | (with_reducible intro hc; (try simp only [capsP, and_true] at hc); (try exact xfC)) | ((fail_if_success (with_reducible first | refine xgon ?_ | intro _)); (conv => whnf); (fail_if_success (fail_if_success (with_reducible first | refine xstp ?_ | refine Both.mk ?_ ?_ | refine xgon ?_ | intro _)))))
        rename_i c3
        refine ⟨⟨(m, a1, e1, X ++ [⟨⟨(sm1 s a 0).1, (sm2 s a 0).1, (sm3 s a 0).1, U⟩, c1, c2⟩], c3), by omega, by show EnI s n0 a0 e0 m a1 e1 (es (X ++ [_])); rw [es_snoc]; exact hE2⟩, [0, 8, .adopt 2 X.length 5, .adopt 3 X.length 6], by simp only; omega, ?_⟩
        (repeat' first | refine And.intro ?_ ?_ | exact xeC | fail)
        all_goals first
          | exact xmC2
          | omega
          | (rw [List.length_append, List.length_singleton]; done)
          | (rw [List.length_append, List.length_singleton]; omega)
          | exact epApp (F := 2) (G := 3) (P := 5) (Q := 6) (fun i hi => by simp [key, hi]) (by simp [key]) (fun i hi => by simp [key, hi]) (by simp [key]) (by rw [hU1, hU2]; rfl)
          | exact fun x hx => ixG_leA tpF hx
          | exact fun x hx => ixG_leA cnF hx
          | skip
        refine ixG_leAn tpF ?_
        refine ⟨rfl, rfl, rfl, rfl, Nat.le_refl _, rfl, fun _ _ => rfl, ?_⟩
        (repeat' first | refine And.intro ?_ ?_ | exact xeC | fail)
        all_goals first
          | exact xmC2
          | exact fun x hx => ixG_leA cnF hx
          | skip
        refine ixG_leAn cnF ?_
        refine ⟨rfl, rfl, rfl, rfl, Nat.le_refl _, rfl, fun _ _ => rfl, ?_⟩
        (repeat' first | refine And.intro ?_ ?_ | exact xeC | fail)
        all_goals first
          | exact xmC2
          | omega
          | (rw [List.length_append, List.length_singleton]; done)
          | skip
    · skip
      have hst : enN s n a e = ([], a, e) := enN_stop (by omega)
      have hq := hE.q
      rw [hst] at hq
      simp only [List.append_nil] at hq
      rw [hq] at hI
      simp only at hI
      refine cH41bK2 (σ := [.whole 0]) (nl := []) (cEnd s a e ha (by omega)) ?_ (hle := by (repeat' first | refine And.intro ?_ ?_ | exact xeC | fail) <;> exact xmC2)
      rintro v h' ⟨rfl, rfl⟩ hcaps
      refine rH41bK0 ?_
      repeat' (first | (fail_if_success (with_reducible refine xstp ?_)); first | ((with_reducible refine And.intro (fun (hb : _ = true) => ?_) (fun (hb : _ = false) => ?_)) <;> replace hb := xnC hb <;> (try first | exact xfC | exact bff hb (by assumption) | exact bff (by assumption) hb)) | (with_reducible refine Both.mk ?_ ?_) | ((with_reducible refine And.intro ?_ ?_); focus exact xoC) | ((with_reducible refine Or.inl ⟨?_, ?_, ?_⟩); (focus rfl); focus exact xaC) | ((with_reducible refine xwB ?_ ?_); focus exact xaC) | ((with_reducible refine xwC ?_ ?_); focus exact xaC) | ((with_reducible refine xwD ?_ ?_); focus exact xaC) | ((with_reducible refine xwE ?_ ?_); focus exact xaC) | (with_reducible intro hc; (try simp only [capsP, and_true] at hc); (try exact xfC)) | ((fail_if_success (with_reducible first | refine xgon ?_ | intro _)); (conv => whnf); (fail_if_success (fail_if_success (with_reducible first | refine xstp ?_ | refine Both.mk ?_ ?_ | refine xgon ?_ | intro _)))))
      refine FinK.mk ⟨[1, 2, 3], _, _, ⟨X, c, by rw [hI], rfl, rfl⟩, ?_⟩
      rw [hI]
      (repeat' first | refine And.intro ?_ ?_ | exact xeC | fail)
      all_goals first
        | exact xmC2
        | (first | exact decide_eq_true (by omega) | exact decide_eq_false (by omega) | exact (decide_eq_true (by omega)).symm | exact (decide_eq_false (by omega)).symm | exact decide_eq_decide.2 (by omega))
        | skip
  · skip
    have hst : enN s n a e = ([], a, e) := enN_stop (by omega)
    have hq := hE.q
    rw [hst] at hq
    simp only [List.append_nil] at hq
    rw [hq] at hI
    simp only at hI
    refine cH41bK2 (σ := [.whole 0]) (nl := []) (cEnd s a e ha (by omega)) ?_ (hle := by (repeat' first | refine And.intro ?_ ?_ | exact xeC | fail) <;> exact xmC2)
    rintro v h' ⟨rfl, rfl⟩ hcaps
    refine rH41bK0 ?_
    repeat' (first | (fail_if_success (with_reducible refine xstp ?_)); first | ((with_reducible refine And.intro (fun (hb : _ = true) => ?_) (fun (hb : _ = false) => ?_)) <;> replace hb := xnC hb <;> (try first | exact xfC | exact bff hb (by assumption) | exact bff (by assumption) hb)) | (with_reducible refine Both.mk ?_ ?_) | ((with_reducible refine And.intro ?_ ?_); focus exact xoC) | ((with_reducible refine Or.inl ⟨?_, ?_, ?_⟩); (focus rfl); focus exact xaC) | ((with_reducible refine xwB ?_ ?_); focus exact xaC) | ((with_reducible refine xwC ?_ ?_); focus exact xaC) | ((with_reducible refine xwD ?_ ?_); focus exact xaC) | ((with_reducible refine xwE ?_ ?_); focus exact xaC) | (with_reducible intro hc; (try simp only [capsP, and_true] at hc); (try exact xfC)) | ((fail_if_success (with_reducible first | refine xgon ?_ | intro _)); (conv => whnf); (fail_if_success (fail_if_success (with_reducible first | refine xstp ?_ | refine Both.mk ?_ ?_ | refine xgon ?_ | intro _)))))
    refine FinK.mk ⟨[1, 2, 3], _, _, ⟨X, c, by rw [hI], rfl, rfl⟩, ?_⟩
    rw [hI]
    (repeat' first | refine And.intro ?_ ?_ | exact xeC | fail)
    all_goals first
      | exact xmC2
      | (first | exact decide_eq_true (by omega) | exact decide_eq_false (by omega) | exact (decide_eq_true (by omega)).symm | exact (decide_eq_false (by omega)).symm | exact decide_eq_decide.2 (by omega))
      | skip
end Go.Proofs.Ytkjkbpnhocjenaa


namespace Go.Proofs.Ytkjkbpnhocjenaa
open Go.X
set_option linter.unusedSimpArgs false
set_option linter.unusedVariables false
open P4
open P5
theorem getEs (X : List Ep) (i : Nat) : (es X).getD i default = (X.getD i default).e := by
  simp only [List.getD, List.getElem?_map]
  cases X[i]? <;> rfl
theorem getFst (U : List Tl) (j : Nat) : (U.map Prod.fst).getD j default = (U.getD j default).1 := by
  simp only [List.getD, List.getElem?_map]
  cases U[j]? <;> rfl
theorem getSnd (U : List Tl) (j : Nat) : (U.map Prod.snd).getD j default = (U.getD j default).2 := by
  simp only [List.getD, List.getElem?_map]
  cases U[j]? <;> rfl
theorem rH41bL0 {σ : List Sg} {H h' : List Fam} {v : T} {K : T → List Fam → Prop} {H' : List Fam} {v' : T} {N : Nat} (hk : K v' H') (hN : H.length = N := by (try simp only [↓List.length_cons, ↓List.length_nil, Nat.reduceAdd]) <;> rfl) (h : givesF σ N H σ h' = some H' := by (try simp (maxSteps := 1000000) only [givesF, setF, updF, Fam.zeroth, Fam.rk, Ck.rk, C.rk, E.rk, T.rk, key, List.map_cons, List.map_nil, List.cons_append, List.nil_append, List.length_cons, List.length_nil, Option.map_some, Option.bind_some, Nat.reduceAdd, Nat.zero_add, Nat.add_zero, Nat.add_sub_cancel_left, Int.toNat_natCast, reps, List.all_cons, List.all_nil, C.flat, List.append_eq, Bool.not_true, Bool.and_true, Bool.or_false, Bool.or_self, Bool.not_false, List.append_nil, Bool.and_self, ↓tpG_rk, ↓cnG_rk]) <;> rfl) (hv : v.rk σ N = v' := by (try simp only [givesF, setF, updF, Fam.zeroth, Fam.rk, Ck.rk, C.rk, E.rk, T.rk, key, List.map_cons, List.map_nil, List.cons_append, List.nil_append, List.length_cons, List.length_nil, Option.map_some, Option.bind_some, Nat.reduceAdd, Nat.zero_add, Nat.add_zero, Nat.add_sub_cancel_left, Int.toNat_natCast, reps, List.all_cons, List.all_nil, C.flat, List.append_eq, Bool.not_true, Bool.and_true, Bool.or_false, Bool.or_self, Bool.not_false, List.append_nil, Bool.and_self, ↓tpG_rk, ↓cnG_rk]) <;> rfl) : RetG σ H h' v K := ret_mk3 hN h hv hk
theorem cH41bL1 {P : Program} {F : Nat} {args : List T} {H : List Fam} {K : T → List Fam → Prop} {σ : List Sg} {nl : List Fam} {args0 : List T} {h0 : List Fam} {Q : T → List Fam → Prop} {H2 H1 : List Fam} {N n : Nat} (hc : Ctr P F args0 h0 Q) (hk : ∀ v h', Q v h' → capsP h' → RetG σ H2 h' v K) (hap : apart σ = true := by rfl) (hnl : nl.all nilB = true := by rfl) (h1 : H ++ nl = H1 := by first | exact List.append_nil _ | ((try simp only [List.cons_append, List.nil_append]) <;> rfl)) (hN : H1.length = N := by (try simp only [↓List.length_cons, ↓List.length_nil, Nat.reduceAdd]) <;> rfl) (hn : H.length = n := by (try simp only [↓List.length_cons, ↓List.length_nil, Nat.reduceAdd]) <;> rfl) (hH : givesF σ N H1 σ h0 = some H2 := by (try simp (maxSteps := 1000000) only [givesF, setF, updF, Fam.zeroth, Fam.rk, Ck.rk, C.rk, E.rk, T.rk, key, List.map_cons, List.map_nil, List.cons_append, List.nil_append, List.length_cons, List.length_nil, Option.map_some, Option.bind_some, Nat.reduceAdd, Nat.zero_add, Nat.add_zero, Nat.add_sub_cancel_left, Int.toNat_natCast, reps, List.all_cons, List.all_nil, C.flat, List.append_eq, Bool.not_true, Bool.and_true, Bool.or_false, Bool.or_self, Bool.not_false, List.append_nil, Bool.and_self, ↓tpG_rk, ↓cnG_rk]) <;> rfl) (hle : leS n H1 σ N σ h0 (belsK N (h0.map (Fam.rk σ N)) (argsK n args (args0.map (T.rk σ N)) True)) := by repeat' first | refine And.intro ?_ ?_ | exact xeC | fail) : CallK P F args H K := CallK.mk3 hc hap hnl h1 hN hn hH hle hk
set_option maxRecDepth 10000 in
set_option maxHeartbeats 16000000 in
theorem cordered (X : List Ep) (c : Nat) (ix : Nat) (hX : X.length ≤ 1000000000) (hT : ∀ y ∈ X, y.e.T.length ≤ 1000000000 ∧ ∀ t ∈ y.e.T, t.1.length ≤ 1000) :
    Ctr Try.prog 47 [.c (.sl 0 0 5 0 X.length c), .c (.i .i64 (ix : Nat))] [.one (epR 1 2 X c), .many (tpG X), .many (cnG X)]
      fun v h => v = .c (.b (decide (ordE (es X) ix))) ∧ h = [.one (epR 1 2 X c), .many (tpG X), .many (cnG X)] := by
  have hEl : (es X).length = X.length := List.length_map _
  have hno : ∀ i, i < X.length → ¬ okE1 (es X) ix i → decide (ordE (es X) ix) = false := fun i hi h => decide_eq_false (fun q => h (q.2 i (by omega)))
  refine Ctr.mk' tbv mixed Try.func47 rfl rfl rfl (fun _ _ => by kernel_rfl) (by kernel_rfl) (by rfl) (by rfl) (by (repeat' first | refine And.intro ?_ ?_ | exact xeC | fail) <;> exact xmC2) ?_
  repeat' (first | (fail_if_success (with_reducible refine xstp ?_)); first | ((with_reducible refine And.intro (fun (hb : _ = true) => ?_) (fun (hb : _ = false) => ?_)) <;> replace hb := xnC hb <;> (try first | exact xfC | exact bff hb (by assumption) | exact bff (by assumption) hb)) | (with_reducible refine Both.mk ?_ ?_) | ((with_reducible refine And.intro ?_ ?_); focus exact xoC) | ((with_reducible refine Or.inl ⟨?_, ?_, ?_⟩); (focus rfl); focus exact xaC) | ((with_reducible refine xwB ?_ ?_); focus exact xaC) | ((with_reducible refine xwC ?_ ?_); focus exact xaC) | ((with_reducible refine xwD ?_ ?_); focus exact xaC) | ((with_reducible refine xwE ?_ ?_); focus exact xaC) | (with_reducible intro hc; (try simp only [capsP, and_true] at hc); (try exact xfC)) | ((fail_if_success (with_reducible first | refine xgon ?_ | intro _)); (conv => whnf); (fail_if_success (fail_if_success (with_reducible first | refine xstp ?_ | refine Both.mk ?_ ?_ | refine xgon ?_ | intro _)))))
  · rw [show decide (ordE (es X) ix) = decide ((ix : Int) = 5) from decide_eq_decide.2 ⟨fun q => by have := q.1 (by omega); omega, fun q => ⟨fun _ => by omega, fun i hi => by omega⟩⟩]
    refine FinK.mk ⟨[0, 1, 2], _, _, ⟨rfl, rfl⟩, ?_⟩
    (repeat' first | refine And.intro ?_ ?_ | exact xeC | fail)
    all_goals exact xmC2
  refine LoopK.mk' {p : Nat × Nat // p.1 ≤ X.length ∧ (∀ j, j < p.1 → okE1 (es X) ix j) ∧ (p.1 = 0 → p.2 = 0) ∧ (0 < p.1 → p.2 = (X.getD (p.1 - 1) default).e.la)}
    (fun ⟨(i, las), _⟩ => ⟨[(0, .c (.sl 0 0 5 0 X.length c)), (1, .c (.i .i64 (ix : Nat))), (5, .c (.i .i64 (las : Nat))), (15, .c (.sl 0 0 5 0 X.length c)), (16, .c (.i .i64 (X.length : Nat))), (17, .c (.i .i64 (i : Nat)))],
      [.one (epR 1 2 X c), .many (tpG X), .many (cnG X)]⟩) (fun k => X.length - k.1.1)
    ⟨⟨(0, 0), Nat.zero_le _, fun j hj => absurd hj (Nat.not_lt_zero _), fun _ => rfl, fun h => absurd h (Nat.lt_irrefl _)⟩, [0, 1, 2], ?_⟩ ?_
  · (repeat' first | refine And.intro ?_ ?_ | exact xeC | fail)
    all_goals exact xmC2
  rintro ⟨⟨i, las⟩, hi, hq, hl0, hl1⟩
  simp only at hi hq hl0 hl1
  have e2 : 0 + ((i : Nat) : Int).toNat = i := by omega
  rcases Nat.lt_or_ge i X.length with hlt | hge
  · have hTi := hT (X.getD i default) (by rw [getD_at hlt]; exact List.getElem_mem _)
    repeat' (first | (fail_if_success (with_reducible refine xstp ?_)); first | ((with_reducible refine And.intro (fun (hb : _ = true) => ?_) (fun (hb : _ = false) => ?_)) <;> replace hb := xnC hb <;> (try first | exact xfC | exact bff hb (by assumption) | exact bff (by assumption) hb)) | (with_reducible refine Both.mk ?_ ?_) | ((with_reducible refine And.intro ?_ ?_); focus exact xoC) | ((with_reducible refine Or.inl ⟨?_, ?_, ?_⟩); (focus rfl); focus exact xaC) | ((with_reducible refine xwB ?_ ?_); focus exact xaC) | ((with_reducible refine xwC ?_ ?_); focus exact xaC) | ((with_reducible refine xwD ?_ ?_); focus exact xaC) | ((with_reducible refine xwE ?_ ?_); focus exact xaC) | (with_reducible intro hc; (try simp only [capsP, and_true] at hc); (try exact xfC)) | ((fail_if_success (with_reducible first | refine xgon ?_ | intro _)); (conv => whnf); (fail_if_success (fail_if_success (with_reducible first | refine xstp ?_ | refine Both.mk ?_ ?_ | refine xgon ?_ | intro _)))))
    all_goals try (
      rw [hno i hlt (fun q => by
        obtain ⟨⟨q1, q2, q3⟩, ⟨q4, q5, q6⟩, q7⟩ := q
        simp only [getEs] at q1 q2 q3 q4 q5 q6
        rcases Nat.eq_zero_or_pos i with h0 | h0
        · have := q1 h0
          have := hl0 h0
          omega
        · have := q2 h0
          have := q4 h0
          have := hl1 h0
          have e6 : (X.getD ((i : Int) - 1).toNat default).e.off = (X.getD (i - 1) default).e.off := by rw [show ((i : Int) - 1).toNat = i - 1 by omega]
          omega)]
      refine FinK.mk ⟨[0, 1, 2], _, _, ⟨rfl, rfl⟩, ?_⟩
      (repeat' first | refine And.intro ?_ ?_ | exact xeC | fail)
      all_goals exact xmC2
      done)
    all_goals rw [e2]
    all_goals (
      have hE3 : okTs (X.getD i default).e.T → okE1 (es X) ix i := fun q => by
        refine ⟨⟨fun h0 => ?_, fun h0 => ?_, ?_⟩, ⟨fun h0 => ?_, ?_, ?_⟩, ?_⟩
        all_goals simp only [getEs]
        · omega
        · have := hl1 h0
          have e6 : (X.getD ((i : Int) - 1).toNat default).e.off = (X.getD (i - 1) default).e.off := by rw [show ((i : Int) - 1).toNat = i - 1 by omega]
          omega
        · omega
        · have := hl1 h0
          omega
        · omega
        · omega
        · exact q
      refine LoopK.mk' {k : Nat // k ≤ (X.getD i default).e.T.length ∧ ∀ j, j < k → okT1 (X.getD i default).e.T j}
        (fun ⟨k, _⟩ => ⟨[(0, .c (.sl 0 0 5 0 X.length c)), (1, .c (.i .i64 (ix : Nat))), (5, .c (.i .i64 ((X.getD i default).e.la : Nat))), (7, .c (.p 3 0 0)), (15, .c (.sl 0 0 5 0 X.length c)), (16, .c (.i .i64 (X.length : Nat))), (17, .c (.i .i64 (i : Nat))), (64, .c (.sl 1 i 1 0 (X.getD i default).e.T.length (X.getD i default).c1)), (65, .c (.i .i64 ((X.getD i default).e.T.length : Nat))), (66, .c (.i .i64 (k : Nat)))],
          [.one (epR 1 2 X c), .many (tpG X), .many (cnG X), .one (.cells true (encEp 1 2 X i))]⟩) (fun k => (X.getD i default).e.T.length - k.1)
        ⟨⟨0, Nat.zero_le _, fun j hj => absurd hj (Nat.not_lt_zero _)⟩, [0, 1, 2, 3], ?_⟩ ?_
      · (repeat' first | refine And.intro ?_ ?_ | exact xeC | fail)
        all_goals exact xmC2
      rintro ⟨k, hk, hkq⟩
      have g1 : ixG tpC X i = stR true ((X.getD i default).e.T.map Prod.fst) (X.getD i default).c1 := ixG_at hlt
      have g2 : ixG cnC X i = ntR true ((X.getD i default).e.T.map Prod.snd) (X.getD i default).c2 := ixG_at hlt
      have hm1 : ((X.getD i default).e.T.map Prod.fst).length = (X.getD i default).e.T.length := List.length_map _
      have hm2 : ((X.getD i default).e.T.map Prod.snd).length = (X.getD i default).e.T.length := List.length_map _
      rcases Nat.lt_or_ge k (X.getD i default).e.T.length with hkl | hkg
      · have hti := hTi.2 ((X.getD i default).e.T.getD k default) (by rw [getD_at hkl]; exact List.getElem_mem _)
        have e5 : 0 + ((k : Nat) : Int).toNat = k := by omega
        have e6 : 0 < k → ((X.getD i default).e.T.map Prod.fst).getD ((k : Int) - 1).toNat default = ((X.getD i default).e.T.getD (k - 1) default).1 := fun h => by
          rw [show ((k : Int) - 1).toNat = k - 1 by omega, getFst]
        have hnoK : ¬ okT1 (X.getD i default).e.T k → decide (ordE (es X) ix) = false := fun h => hno i hlt (fun q => h (by
          have q7 := q.2.2
          simp only [getEs] at q7
          exact q7 k hkl))
        repeat' (first | (fail_if_success (with_reducible refine xstp ?_)); first | ((with_reducible refine And.intro (fun (hb : _ = true) => ?_) (fun (hb : _ = false) => ?_)) <;> replace hb := xnC hb <;> (try first | exact xfC | exact bff hb (by assumption) | exact bff (by assumption) hb)) | (with_reducible refine Both.mk ?_ ?_) | ((with_reducible refine And.intro ?_ ?_); focus exact xoC) | ((with_reducible refine Or.inl ⟨?_, ?_, ?_⟩); (focus rfl); focus exact xaC) | ((with_reducible refine xwB ?_ ?_); focus exact xaC) | ((with_reducible refine xwC ?_ ?_); focus exact xaC) | ((with_reducible refine xwD ?_ ?_); focus exact xaC) | ((with_reducible refine xwE ?_ ?_); focus exact xaC) | (with_reducible intro hc; (try simp only [capsP, and_true] at hc); (try exact xfC)) | ((fail_if_success (with_reducible first | refine xgon ?_ | intro _)); (conv => whnf); (fail_if_success (fail_if_success (with_reducible first | refine xstp ?_ | refine Both.mk ?_ ?_ | refine xgon ?_ | intro _)))))
        all_goals try (first | refine ManyK.mk ⟨_, g1, ?_⟩ | refine ManyK.mk ⟨_, g2, ?_⟩)
        all_goals (
          repeat' (first | (fail_if_success (with_reducible refine xstp ?_)); first | ((with_reducible refine And.intro (fun (hb : _ = true) => ?_) (fun (hb : _ = false) => ?_)) <;> replace hb := xnC hb <;> (try first | exact xfC | exact bff hb (by assumption) | exact bff (by assumption) hb)) | (with_reducible refine Both.mk ?_ ?_) | ((with_reducible refine And.intro ?_ ?_); focus exact xoC) | ((with_reducible refine Or.inl ⟨?_, ?_, ?_⟩); (focus rfl); focus exact xaC) | ((with_reducible refine xwB ?_ ?_); focus exact xaC) | ((with_reducible refine xwC ?_ ?_); focus exact xaC) | ((with_reducible refine xwD ?_ ?_); focus exact xaC) | ((with_reducible refine xwE ?_ ?_); focus exact xaC) | (with_reducible intro hc; (try simp only [capsP, and_true] at hc); (try exact xfC)) | ((fail_if_success (with_reducible first | refine xgon ?_ | intro _)); (conv => whnf); (fail_if_success (fail_if_success (with_reducible first | refine xstp ?_ | refine Both.mk ?_ ?_ | refine xgon ?_ | intro _)))))
          )
        all_goals try (first | refine ManyK.mk ⟨_, g1, ?_⟩ | refine ManyK.mk ⟨_, g2, ?_⟩)
        all_goals (
          repeat' (first | (fail_if_success (with_reducible refine xstp ?_)); first | ((with_reducible refine And.intro (fun (hb : _ = true) => ?_) (fun (hb : _ = false) => ?_)) <;> replace hb := xnC hb <;> (try first | exact xfC | exact bff hb (by assumption) | exact bff (by assumption) hb)) | (with_reducible refine Both.mk ?_ ?_) | ((with_reducible refine And.intro ?_ ?_); focus exact xoC) | ((with_reducible refine Or.inl ⟨?_, ?_, ?_⟩); (focus rfl); focus exact xaC) | ((with_reducible refine xwB ?_ ?_); focus exact xaC) | ((with_reducible refine xwC ?_ ?_); focus exact xaC) | ((with_reducible refine xwD ?_ ?_); focus exact xaC) | ((with_reducible refine xwE ?_ ?_); focus exact xaC) | (with_reducible intro hc; (try simp only [capsP, and_true] at hc); (try exact xfC)) | ((fail_if_success (with_reducible first | refine xgon ?_ | intro _)); (conv => whnf); (fail_if_success (fail_if_success (with_reducible first | refine xstp ?_ | refine Both.mk ?_ ?_ | refine xgon ?_ | intro _)))))
          )
        rw [e5, getFst]
        refine cH41bL1 (σ := []) (nl := []) (cisT ((X.getD i default).e.T.getD k default).1 (by omega)) ?_ (hle := by (repeat' first | refine And.intro ?_ ?_ | exact xeC | fail) <;> exact xmC2)
        rintro v h' ⟨rfl, rfl⟩ hcaps
        refine rH41bL0 ?_
        repeat' (first | (fail_if_success (with_reducible refine xstp ?_)); first | ((with_reducible refine And.intro (fun (hb : _ = true) => ?_) (fun (hb : _ = false) => ?_)) <;> replace hb := xnC hb <;> (try first | exact xfC | exact bff hb (by assumption) | exact bff (by assumption) hb)) | (with_reducible refine Both.mk ?_ ?_) | ((with_reducible refine And.intro ?_ ?_); focus exact xoC) | ((with_reducible refine Or.inl ⟨?_, ?_, ?_⟩); (focus rfl); focus exact xaC) | ((with_reducible refine xwB ?_ ?_); focus exact xaC) | ((with_reducible refine xwC ?_ ?_); focus exact xaC) | ((with_reducible refine xwD ?_ ?_); focus exact xaC) | ((with_reducible refine xwE ?_ ?_); focus exact xaC) | (with_reducible intro hc; (try simp only [capsP, and_true] at hc); (try exact xfC)) | ((fail_if_success (with_reducible first | refine xgon ?_ | intro _)); (conv => whnf); (fail_if_success (fail_if_success (with_reducible first | refine xstp ?_ | refine Both.mk ?_ ?_ | refine xgon ?_ | intro _)))))
        all_goals try (first | refine ManyK.mk ⟨_, g1, ?_⟩ | refine ManyK.mk ⟨_, g2, ?_⟩)
        all_goals (
          repeat' (first | (fail_if_success (with_reducible refine xstp ?_)); first | ((with_reducible refine And.intro (fun (hb : _ = true) => ?_) (fun (hb : _ = false) => ?_)) <;> replace hb := xnC hb <;> (try first | exact xfC | exact bff hb (by assumption) | exact bff (by assumption) hb)) | (with_reducible refine Both.mk ?_ ?_) | ((with_reducible refine And.intro ?_ ?_); focus exact xoC) | ((with_reducible refine Or.inl ⟨?_, ?_, ?_⟩); (focus rfl); focus exact xaC) | ((with_reducible refine xwB ?_ ?_); focus exact xaC) | ((with_reducible refine xwC ?_ ?_); focus exact xaC) | ((with_reducible refine xwD ?_ ?_); focus exact xaC) | ((with_reducible refine xwE ?_ ?_); focus exact xaC) | (with_reducible intro hc; (try simp only [capsP, and_true] at hc); (try exact xfC)) | ((fail_if_success (with_reducible first | refine xgon ?_ | intro _)); (conv => whnf); (fail_if_success (fail_if_success (with_reducible first | refine xstp ?_ | refine Both.mk ?_ ?_ | refine xgon ?_ | intro _)))))
          )
        all_goals try (first | refine ManyK.mk ⟨_, g1, ?_⟩ | refine ManyK.mk ⟨_, g2, ?_⟩)
        all_goals (
          repeat' (first | (fail_if_success (with_reducible refine xstp ?_)); first | ((with_reducible refine And.intro (fun (hb : _ = true) => ?_) (fun (hb : _ = false) => ?_)) <;> replace hb := xnC hb <;> (try first | exact xfC | exact bff hb (by assumption) | exact bff (by assumption) hb)) | (with_reducible refine Both.mk ?_ ?_) | ((with_reducible refine And.intro ?_ ?_); focus exact xoC) | ((with_reducible refine Or.inl ⟨?_, ?_, ?_⟩); (focus rfl); focus exact xaC) | ((with_reducible refine xwB ?_ ?_); focus exact xaC) | ((with_reducible refine xwC ?_ ?_); focus exact xaC) | ((with_reducible refine xwD ?_ ?_); focus exact xaC) | ((with_reducible refine xwE ?_ ?_); focus exact xaC) | (with_reducible intro hc; (try simp only [capsP, and_true] at hc); (try exact xfC)) | ((fail_if_success (with_reducible first | refine xgon ?_ | intro _)); (conv => whnf); (fail_if_success (fail_if_success (with_reducible first | refine xstp ?_ | refine Both.mk ?_ ?_ | refine xgon ?_ | intro _)))))
          )
        all_goals try (first | refine ManyK.mk ⟨_, g1, ?_⟩ | refine ManyK.mk ⟨_, g2, ?_⟩)
        all_goals (
          repeat' (first | (fail_if_success (with_reducible refine xstp ?_)); first | ((with_reducible refine And.intro (fun (hb : _ = true) => ?_) (fun (hb : _ = false) => ?_)) <;> replace hb := xnC hb <;> (try first | exact xfC | exact bff hb (by assumption) | exact bff (by assumption) hb)) | (with_reducible refine Both.mk ?_ ?_) | ((with_reducible refine And.intro ?_ ?_); focus exact xoC) | ((with_reducible refine Or.inl ⟨?_, ?_, ?_⟩); (focus rfl); focus exact xaC) | ((with_reducible refine xwB ?_ ?_); focus exact xaC) | ((with_reducible refine xwC ?_ ?_); focus exact xaC) | ((with_reducible refine xwD ?_ ?_); focus exact xaC) | ((with_reducible refine xwE ?_ ?_); focus exact xaC) | (with_reducible intro hc; (try simp only [capsP, and_true] at hc); (try exact xfC)) | ((fail_if_success (with_reducible first | refine xgon ?_ | intro _)); (conv => whnf); (fail_if_success (fail_if_success (with_reducible first | refine xstp ?_ | refine Both.mk ?_ ?_ | refine xgon ?_ | intro _)))))
          )
        all_goals try (first | refine ManyK.mk ⟨_, g1, ?_⟩ | refine ManyK.mk ⟨_, g2, ?_⟩)
        all_goals (
          repeat' (first | (fail_if_success (with_reducible refine xstp ?_)); first | ((with_reducible refine And.intro (fun (hb : _ = true) => ?_) (fun (hb : _ = false) => ?_)) <;> replace hb := xnC hb <;> (try first | exact xfC | exact bff hb (by assumption) | exact bff (by assumption) hb)) | (with_reducible refine Both.mk ?_ ?_) | ((with_reducible refine And.intro ?_ ?_); focus exact xoC) | ((with_reducible refine Or.inl ⟨?_, ?_, ?_⟩); (focus rfl); focus exact xaC) | ((with_reducible refine xwB ?_ ?_); focus exact xaC) | ((with_reducible refine xwC ?_ ?_); focus exact xaC) | ((with_reducible refine xwD ?_ ?_); focus exact xaC) | ((with_reducible refine xwE ?_ ?_); focus exact xaC) | (with_reducible intro hc; (try simp only [capsP, and_true] at hc); (try exact xfC)) | ((fail_if_success (with_reducible first | refine xgon ?_ | intro _)); (conv => whnf); (fail_if_success (fail_if_success (with_reducible first | refine xstp ?_ | refine Both.mk ?_ ?_ | refine xgon ?_ | intro _)))))
          )
        all_goals first
          | rw [hnoK (fun q => by
              have q1 := q.1
              have q2 := q.2.1
              have q3 := q.2.2
              first
                | (rw [getSnd] at hb; omega)
                | exact hb q1
                | (rw [e6 (by omega)] at hb; exact leT_iff.1 hb (q2 (by omega))))]
            refine FinK.mk ⟨[0, 1, 2], _, _, ⟨rfl, rfl⟩, ?_⟩
            (repeat' first | refine And.intro ?_ ?_ | exact xeC | fail)
            all_goals exact xmC2
          | refine ⟨⟨k + 1, hkl, fun j hj => ?_⟩, [0, 1, 2, 3], by simp only; omega, ?_⟩
            · rcases Nat.lt_or_ge j k with h | h
              · exact hkq j h
              · obtain rfl : j = k := by omega
                rw [getSnd] at hb
                refine ⟨by assumption, fun h0 => ?_, by omega⟩
                first
                  | exact absurd h0 (by omega)
                  | (rename (Op.bytesLess _ _ = false ∧ _) => hbl
                     rw [e6 h0] at hbl
                     exact gtT_of hbl)
            · (repeat' first | refine And.intro ?_ ?_ | exact xeC | fail)
              all_goals exact xmC2
      · have hE4 : okE1 (es X) ix i := hE3 fun j hj => hkq j (by omega)
        repeat' (first | (fail_if_success (with_reducible refine xstp ?_)); first | ((with_reducible refine And.intro (fun (hb : _ = true) => ?_) (fun (hb : _ = false) => ?_)) <;> replace hb := xnC hb <;> (try first | exact xfC | exact bff hb (by assumption) | exact bff (by assumption) hb)) | (with_reducible refine Both.mk ?_ ?_) | ((with_reducible refine And.intro ?_ ?_); focus exact xoC) | ((with_reducible refine Or.inl ⟨?_, ?_, ?_⟩); (focus rfl); focus exact xaC) | ((with_reducible refine xwB ?_ ?_); focus exact xaC) | ((with_reducible refine xwC ?_ ?_); focus exact xaC) | ((with_reducible refine xwD ?_ ?_); focus exact xaC) | ((with_reducible refine xwE ?_ ?_); focus exact xaC) | (with_reducible intro hc; (try simp only [capsP, and_true] at hc); (try exact xfC)) | ((fail_if_success (with_reducible first | refine xgon ?_ | intro _)); (conv => whnf); (fail_if_success (fail_if_success (with_reducible first | refine xstp ?_ | refine Both.mk ?_ ?_ | refine xgon ?_ | intro _)))))
        refine ⟨⟨(i + 1, (X.getD i default).e.la), hlt, fun j hj => ?_, fun h => absurd h (Nat.succ_ne_zero i), fun _ => rfl⟩, [0, 1, 2], by simp only; omega, ?_⟩
        · rcases Nat.lt_or_ge j i with h | h
          · exact hq j h
          · obtain rfl : j = i := by have : j < i + 1 := hj; omega
            exact hE4
        · (repeat' first | refine And.intro ?_ ?_ | exact xeC | fail)
          all_goals exact xmC2)
  · skip
    repeat' (first | (fail_if_success (with_reducible refine xstp ?_)); first | ((with_reducible refine And.intro (fun (hb : _ = true) => ?_) (fun (hb : _ = false) => ?_)) <;> replace hb := xnC hb <;> (try first | exact xfC | exact bff hb (by assumption) | exact bff (by assumption) hb)) | (with_reducible refine Both.mk ?_ ?_) | ((with_reducible refine And.intro ?_ ?_); focus exact xoC) | ((with_reducible refine Or.inl ⟨?_, ?_, ?_⟩); (focus rfl); focus exact xaC) | ((with_reducible refine xwB ?_ ?_); focus exact xaC) | ((with_reducible refine xwC ?_ ?_); focus exact xaC) | ((with_reducible refine xwD ?_ ?_); focus exact xaC) | ((with_reducible refine xwE ?_ ?_); focus exact xaC) | (with_reducible intro hc; (try simp only [capsP, and_true] at hc); (try exact xfC)) | ((fail_if_success (with_reducible first | refine xgon ?_ | intro _)); (conv => whnf); (fail_if_success (fail_if_success (with_reducible first | refine xstp ?_ | refine Both.mk ?_ ?_ | refine xgon ?_ | intro _)))))
    rw [show decide (ordE (es X) ix) = true from decide_eq_true ⟨fun h => by omega, fun j hj => hq j (by omega)⟩]
    refine FinK.mk ⟨[0, 1, 2], _, _, ⟨rfl, rfl⟩, ?_⟩
    (repeat' first | refine And.intro ?_ ?_ | exact xeC | fail)
    all_goals exact xmC2
end Go.Proofs.Ytkjkbpnhocjenaa


namespace Go.Proofs.Ytkjkbpnhocjenaa
open Go.X
set_option linter.unusedSimpArgs false
set_option linter.unusedVariables false
open P4
open P5
theorem tlN_len {s : ByteArray} : ∀ (k a e : Nat), a ≤ s.size → (tlN s k a e).1.length ≤ s.size - a + 1 ∧ ∀ t ∈ (tlN s k a e).1, t.1.length ≤ 40
  | 0, a, e, h => by simp [tlN]
  | k + 1, a, e, h => by
    unfold tlN
    split
    · rename_i he
      subst he
      have h1 := rdT_mono (e := 0) (m := 40) h
      have h2 := rdAt_mono (e := (rdT s a 0 40).2.2) h1.2
      have h3 := tlN_len k _ (rdAt s (rdT s a 0 40).2.1 (rdT s a 0 40).2.2).2.2 h2.2
      refine ⟨?_, ?_⟩
      · simp only [List.length_cons]
        by_cases hp : (rdAt s (rdT s a 0 40).2.1 (rdT s a 0 40).2.2).2.2 = 0
        · have := rdS_pos (m := 1099511627776) hp
          have e1 : (rdS s (rdT s a 0 40).2.1 (rdT s a 0 40).2.2 1099511627776).2.1 = (rdAt s (rdT s a 0 40).2.1 (rdT s a 0 40).2.2).2.1 := rfl
          omega
        · rw [tlN_stop (.inr hp)]; simp
      · intro t ht
        rcases List.mem_cons.1 ht with rfl | ht
        · exact rdT_len s a 0 40
        · exact h3.2 t ht
    · simp
theorem enN_len {s : ByteArray} : ∀ (k a e : Nat), a ≤ s.size → (enN s k a e).1.length ≤ s.size - a + 1 ∧ ∀ y ∈ (enN s k a e).1, y.T.length ≤ s.size + 1 ∧ ∀ t ∈ y.T, t.1.length ≤ 40
  | 0, a, e, h => by simp [enN]
  | k + 1, a, e, h => by
    unfold enN
    split
    · rename_i he
      subst he
      have hm := sm_mono (e := 0) h
      have ht := tlN_mono (s := s) (sm4 s a 0).1 (sm4 s a 0).2.1 (sm4 s a 0).2.2 hm.2.2.2.1
      have hl := tlN_len (s := s) (sm4 s a 0).1 (sm4 s a 0).2.1 (sm4 s a 0).2.2 hm.2.2.2.1
      have e1 : enT s a 0 = tlN s (sm4 s a 0).1 (sm4 s a 0).2.1 (sm4 s a 0).2.2 := rfl
      have h3 := enN_len k (enT s a 0).2.1 (enT s a 0).2.2 (by rw [e1]; exact ht.2.1)
      refine ⟨?_, ?_⟩
      · simp only [List.length_cons]
        by_cases hp : (enT s a 0).2.2 = 0
        · have := sm_pos (ht.2.2 (by rw [← e1]; exact hp))
          rw [e1] at h3 hp ⊢
          omega
        · rw [enN_stop (.inr hp)]; simp
      · intro y hy
        rcases List.mem_cons.1 hy with rfl | hy
        · have e2 : (rdEn s a 0).T = (tlN s (sm4 s a 0).1 (sm4 s a 0).2.1 (sm4 s a 0).2.2).1 := rfl
          rw [e2]
          exact ⟨by omega, hl.2⟩
        · exact h3.2 y hy
    · simp
theorem ixL_len (s : ByteArray) : (ixL s).1.length ≤ s.size + 1 ∧ ∀ y ∈ (ixL s).1, y.T.length ≤ s.size + 1 ∧ ∀ t ∈ y.T, t.1.length ≤ 40 := by
  unfold ixL
  split
  · have h1 := rdU_le (s := s) (a := 0) (e := 0) (Nat.zero_le _)
    have h2 := rdAt_mono (e := (rdU s 0 0).2.2) h1.1
    have := enN_len (s := s) (rdAt s (rdU s 0 0).2.1 (rdU s 0 0).2.2).1 _ (rdAt s (rdU s 0 0).2.1 (rdU s 0 0).2.2).2.2 h2.2
    exact ⟨by simp only; omega, this.2⟩
  · simp
theorem le8_cons (b : UInt8) (l : List UInt8) : le8 (b :: l) = b.toNat + 256 * le8 l := rfl
theorem le8_lt : ∀ l : List UInt8, le8 l < 256 ^ l.length
  | [] => by simp [le8]
  | b :: l => by
    have h := le8_lt l
    have hb := b.toNat_lt
    rw [le8_cons, List.length_cons, Nat.pow_succ]
    omega
theorem openL_len (l : List UInt8) : (openL l).1.length ≤ l.length := by
  unfold openL
  split
  · simp
  · split
    · simp
    · simp
theorem exaL_len (l : List UInt8) : (exaL l).1.length ≤ l.length := by
  unfold exaL
  split
  · have := openL_len (rdT (mkS l) 0 0 l.length).1
    have := rdT_len (mkS l) 0 0 l.length
    omega
  · simp
theorem or8 (x : Nat) (b : UInt8) (h : x < 72057594037927936) :
    IntKind.u64.wrap ((BitVec.ofInt IntKind.u64.bits (IntKind.u64.wrap ((x : Int) * 2 ^ min (Int.toNat 8) IntKind.u64.bits)) ||| BitVec.ofInt IntKind.u64.bits (IntKind.u64.wrap (b.toNat : Int))).toNat : Nat) = ((b.toNat + 256 * x : Nat) : Int) := by
  have hb := b.toNat_lt
  have e1 : IntKind.u64.wrap ((x : Int) * 2 ^ min (Int.toNat 8) IntKind.u64.bits) = ((256 * x : Nat) : Int) := by
    rw [show min (Int.toNat 8) IntKind.u64.bits = 8 from rfl, IntKind.wrap_u64]; omega
  have e2 : IntKind.u64.wrap (b.toNat : Int) = ((b.toNat : Nat) : Int) := by rw [IntKind.wrap_u64]; omega
  rw [e1, e2]
  have e3 : (BitVec.ofInt IntKind.u64.bits ((256 * x : Nat) : Int)).toNat = 256 * x := by
    show (BitVec.ofInt 64 ((256 * x : Nat) : Int)).toNat = 256 * x
    rw [BitVec.ofInt_natCast, BitVec.toNat_ofNat, Nat.mod_eq_of_lt (by omega)]
  have e4 : (BitVec.ofInt IntKind.u64.bits ((b.toNat : Nat) : Int)).toNat = b.toNat := by
    show (BitVec.ofInt 64 ((b.toNat : Nat) : Int)).toNat = b.toNat
    rw [BitVec.ofInt_natCast, BitVec.toNat_ofNat, Nat.mod_eq_of_lt (by omega)]
  rw [BitVec.toNat_or, e3, e4]
  have e5 : 256 * x ||| b.toNat = 256 * x + b.toNat := by
    have := Nat.shiftLeft_add_eq_or_of_lt (i := 8) (b := b.toNat) (by omega) x
    rw [Nat.shiftLeft_eq] at this
    rw [show 256 * x = x * 2 ^ 8 by omega]
    exact this.symm
  rw [e5, IntKind.wrap_u64]
  omega
theorem bgO_L (l : List UInt8) : (bgO l).L = (ixL (mkS (bgX l).1)).1 := by simp only [bgO]
theorem encEp_rk0 (F G : Nat) (N : Nat) (X : List Ep) (i : Nat) : List.map (C.rk [] N) (encEp F G X i) = encEp (N + F) (N + G) X i := rfl
abbrev bgC (b : Bg) (F n c : Nat) : Ck := .cells true [.s (mkS b.s), .sl F 0 5 0 n c, .i .i64 (b.ix : Nat)]
abbrev bagH (b : Bg) (X : List Ep) (c : Nat) : List Fam := [.one (bgC b 1 X.length c), .one (epR 2 3 X c), .many (tpG X), .many (cnG X)]
theorem rH41bM0 {σ : List Sg} {H h' : List Fam} {v : T} {K : T → List Fam → Prop} {H' : List Fam} {v' : T} {N : Nat} (hk : K v' H') (hN : H.length = N := by (try simp only [↓List.length_cons, ↓List.length_nil, Nat.reduceAdd]) <;> rfl) (h : givesF σ N H σ h' = some H' := by (try simp (maxSteps := 1000000) only [givesF, setF, updF, Fam.zeroth, Fam.rk, Ck.rk, C.rk, E.rk, T.rk, key, List.map_cons, List.map_nil, List.cons_append, List.nil_append, List.length_cons, List.length_nil, Option.map_some, Option.bind_some, Nat.reduceAdd, Nat.zero_add, Nat.add_zero, Nat.add_sub_cancel_left, Int.toNat_natCast, reps, List.all_cons, List.all_nil, C.flat, List.append_eq, Bool.not_true, Bool.and_true, Bool.or_false, Bool.or_self, Bool.not_false, List.append_nil, Bool.and_self, ↓tpG_rk, ↓cnG_rk]) <;> rfl) (hv : v.rk σ N = v' := by (try simp only [givesF, setF, updF, Fam.zeroth, Fam.rk, Ck.rk, C.rk, E.rk, T.rk, key, List.map_cons, List.map_nil, List.cons_append, List.nil_append, List.length_cons, List.length_nil, Option.map_some, Option.bind_some, Nat.reduceAdd, Nat.zero_add, Nat.add_zero, Nat.add_sub_cancel_left, Int.toNat_natCast, reps, List.all_cons, List.all_nil, C.flat, List.append_eq, Bool.not_true, Bool.and_true, Bool.or_false, Bool.or_self, Bool.not_false, List.append_nil, Bool.and_self, ↓tpG_rk, ↓cnG_rk]) <;> rfl) : RetG σ H h' v K := ret_mk3 hN h hv hk
theorem rH41bM1 {σ : List Sg} {H h' : List Fam} {v : T} {K : T → List Fam → Prop} {H' : List Fam} {v' : T} {N : Nat} (hk : K v' H') (hN : H.length = N := by (try simp only [↓List.length_cons, ↓List.length_nil, Nat.reduceAdd]) <;> rfl) (h : givesF σ N H σ h' = some H' := by (try simp (maxSteps := 1000000) only [givesF, setF, updF, Fam.zeroth, Fam.rk, Ck.rk, C.rk, E.rk, T.rk, key, List.map_cons, List.map_nil, List.cons_append, List.nil_append, List.length_cons, List.length_nil, Option.map_some, Option.bind_some, Nat.reduceAdd, Nat.zero_add, Nat.add_zero, Nat.add_sub_cancel_left, Int.toNat_natCast, reps, List.all_cons, List.all_nil, C.flat, List.append_eq, Bool.not_true, Bool.and_true, Bool.or_false, Bool.or_self, Bool.not_false, List.append_nil, Bool.and_self, ↓tpG_rk, ↓cnG_rk, encEp_rk0]) <;> rfl) (hv : v.rk σ N = v' := by (try simp only [givesF, setF, updF, Fam.zeroth, Fam.rk, Ck.rk, C.rk, E.rk, T.rk, key, List.map_cons, List.map_nil, List.cons_append, List.nil_append, List.length_cons, List.length_nil, Option.map_some, Option.bind_some, Nat.reduceAdd, Nat.zero_add, Nat.add_zero, Nat.add_sub_cancel_left, Int.toNat_natCast, reps, List.all_cons, List.all_nil, C.flat, List.append_eq, Bool.not_true, Bool.and_true, Bool.or_false, Bool.or_self, Bool.not_false, List.append_nil, Bool.and_self, ↓tpG_rk, ↓cnG_rk, encEp_rk0]) <;> rfl) : RetG σ H h' v K := ret_mk3 hN h hv hk
theorem rH41bM2 {σ : List Sg} {H h' : List Fam} {v : T} {K : T → List Fam → Prop} {H' : List Fam} {v' : T} {N : Nat} (hk : K v' H') (hN : H.length = N := by (try simp only [↓List.length_cons, ↓List.length_nil, Nat.reduceAdd]) <;> rfl) (h : givesF σ N H σ h' = some H' := by (try simp (maxSteps := 1000000) only [givesF, setF, updF, Fam.zeroth, Fam.rk, Ck.rk, C.rk, E.rk, T.rk, key, List.map_cons, List.map_nil, List.cons_append, List.nil_append, List.length_cons, List.length_nil, Option.map_some, Option.bind_some, Nat.reduceAdd, Nat.zero_add, Nat.add_zero, Nat.add_sub_cancel_left, Int.toNat_natCast, reps, List.all_cons, List.all_nil, C.flat, List.append_eq, Bool.not_true, Bool.and_true, Bool.or_false, Bool.or_self, Bool.not_false, List.append_nil, Bool.and_self, ↓tpG_rk, ↓cnG_rk, encEp_rk1]) <;> rfl) (hv : v.rk σ N = v' := by (try simp only [givesF, setF, updF, Fam.zeroth, Fam.rk, Ck.rk, C.rk, E.rk, T.rk, key, List.map_cons, List.map_nil, List.cons_append, List.nil_append, List.length_cons, List.length_nil, Option.map_some, Option.bind_some, Nat.reduceAdd, Nat.zero_add, Nat.add_zero, Nat.add_sub_cancel_left, Int.toNat_natCast, reps, List.all_cons, List.all_nil, C.flat, List.append_eq, Bool.not_true, Bool.and_true, Bool.or_false, Bool.or_self, Bool.not_false, List.append_nil, Bool.and_self, ↓tpG_rk, ↓cnG_rk, encEp_rk1]) <;> rfl) : RetG σ H h' v K := ret_mk3 hN h hv hk
theorem cH41bM3 {P : Program} {F : Nat} {args : List T} {H : List Fam} {K : T → List Fam → Prop} {σ : List Sg} {nl : List Fam} {args0 : List T} {h0 : List Fam} {Q : T → List Fam → Prop} {H2 H1 : List Fam} {N n : Nat} (hc : Ctr P F args0 h0 Q) (hk : ∀ v h', Q v h' → capsP h' → RetG σ H2 h' v K) (hap : apart σ = true := by rfl) (hnl : nl.all nilB = true := by rfl) (h1 : H ++ nl = H1 := by first | exact List.append_nil _ | ((try simp only [List.cons_append, List.nil_append]) <;> rfl)) (hN : H1.length = N := by (try simp only [↓List.length_cons, ↓List.length_nil, Nat.reduceAdd]) <;> rfl) (hn : H.length = n := by (try simp only [↓List.length_cons, ↓List.length_nil, Nat.reduceAdd]) <;> rfl) (hH : givesF σ N H1 σ h0 = some H2 := by (try simp (maxSteps := 1000000) only [givesF, setF, updF, Fam.zeroth, Fam.rk, Ck.rk, C.rk, E.rk, T.rk, key, List.map_cons, List.map_nil, List.cons_append, List.nil_append, List.length_cons, List.length_nil, Option.map_some, Option.bind_some, Nat.reduceAdd, Nat.zero_add, Nat.add_zero, Nat.add_sub_cancel_left, Int.toNat_natCast, reps, List.all_cons, List.all_nil, C.flat, List.append_eq, Bool.not_true, Bool.and_true, Bool.or_false, Bool.or_self, Bool.not_false, List.append_nil, Bool.and_self, ↓tpG_rk, ↓cnG_rk]) <;> rfl) (hle : leS n H1 σ N σ h0 (belsK N (h0.map (Fam.rk σ N)) (argsK n args (args0.map (T.rk σ N)) True)) := by repeat' first | refine And.intro ?_ ?_ | exact xeC | fail) : CallK P F args H K := CallK.mk3 hc hap hnl h1 hN hn hH hle hk
set_option maxRecDepth 10000 in
set_option maxHeartbeats 8000000 in
theorem cOpenB (l : List UInt8) (hl : l.length ≤ 100000000) :
    Ctr Try.prog 19 [.c (.s (mkS l))] []
      fun v h => (bgE l ≠ 0 ∧ v = .t [.c .nilp, .c (.i .i64 (bgE l : Nat))] ∧ h = []) ∨ (bgE l = 0 ∧ ∃ X c, es X = (bgO l).L ∧ v = .t [.c (.p 0 0 0), .c (.i .i64 0)] ∧ h = bagH (bgO l) X c) := by
  have hz : (mkS l).size = l.length := rfl
  have hm : ({ data := #[82, 66, 65, 71, 49] } : ByteArray) = mkS magic := rfl
  have t1 : (mkS l).extract 0 (Int.toNat 5) = mkS (l.take 5) := by rw [mkS_ext]; rfl
  have t2 : (mkS l).extract (((mkS l).size : Int) - 5).toNat (mkS l).size = mkS (l.drop (l.length - 5)) := by
    rw [mkS_ext, hz, List.take_length, show ((l.length : Int) - 5).toNat = l.length - 5 by omega]
  have t3 : 18 ≤ l.length → (mkS l).extract (((mkS l).size : Int) - 13).toNat (((mkS l).size : Int) - 5).toNat = mkS ((l.drop (l.length - 13)).take 8) := fun h => by
    rw [mkS_ext, hz, show ((l.length : Int) - 5).toNat = (l.length - 13) + 8 by omega, show ((l.length : Int) - 13).toNat = l.length - 13 by omega, List.drop_take, Nat.add_sub_cancel_left]
  refine Ctr.mk' tbv mixed Try.func19 rfl rfl rfl (fun _ _ => by kernel_rfl) (by kernel_rfl) (by rfl) (by rfl) (by (repeat' first | refine And.intro ?_ ?_ | exact xeC | fail)) ?_
  repeat' (first | (fail_if_success (with_reducible refine xstp ?_)); first | ((with_reducible refine And.intro (fun (hb : _ = true) => ?_) (fun (hb : _ = false) => ?_)) <;> replace hb := xnC hb <;> (try first | exact xfC | exact bff hb (by assumption) | exact bff (by assumption) hb)) | (with_reducible refine Both.mk ?_ ?_) | ((with_reducible refine And.intro ?_ ?_); focus exact xoC) | ((with_reducible refine Or.inl ⟨?_, ?_, ?_⟩); (focus rfl); focus exact xaC) | ((with_reducible refine xwB ?_ ?_); focus exact xaC) | ((with_reducible refine xwC ?_ ?_); focus exact xaC) | ((with_reducible refine xwD ?_ ?_); focus exact xaC) | ((with_reducible refine xwE ?_ ?_); focus exact xaC) | (with_reducible intro hc; (try simp only [capsP, and_true] at hc); (try exact xfC)) | ((fail_if_success (with_reducible first | refine xgon ?_ | intro _)); (conv => whnf); (fail_if_success (fail_if_success (with_reducible first | refine xstp ?_ | refine Both.mk ?_ ?_ | refine xgon ?_ | intro _)))))
  · skip
    have hE : bgE l = 1 := if_pos (by omega)
    rw [hE]
    refine FinK.mk ⟨[], _, _, .inl ⟨by decide, rfl, rfl⟩, ?_⟩
    (repeat' first | refine And.intro ?_ ?_ | exact xeC | fail)
  · rw [t1, hm, mkS_inj] at hb
    have hE : bgE l = 2 := by unfold bgE; rw [if_neg (by omega), if_pos (fun q => hb q.1)]
    rw [hE]
    refine FinK.mk ⟨[], _, _, .inl ⟨by decide, rfl, rfl⟩, ?_⟩
    (repeat' first | refine And.intro ?_ ?_ | exact xeC | fail)
  · rw [t2, hm, mkS_inj] at hb
    have hE : bgE l = 2 := by unfold bgE; rw [if_neg (by omega), if_pos (fun q => hb q.2.1)]
    rw [hE]
    refine FinK.mk ⟨[], _, _, .inl ⟨by decide, rfl, rfl⟩, ?_⟩
    (repeat' first | refine And.intro ?_ ?_ | exact xeC | fail)
  rename_i hh1
  rw [t1, hm, mkS_inj] at hh1
  rw [t2, hm, mkS_inj] at hb
  rw [t3 (by omega)]
  have h8 : ((l.drop (l.length - 13)).take 8).length = 8 := by rw [List.length_take, List.length_drop]; omega
  have hA : bgA l = le8 ((l.drop (l.length - 13)).take 8) := rfl
  have hlt8 := le8_lt ((l.drop (l.length - 13)).take 8)
  rw [h8] at hlt8
  generalize hp8 : (l.drop (l.length - 13)).take 8 = p8 at *
  have hz8 : (mkS p8).size = 8 := h8
  refine LoopK.mk' {j : Nat // j ≤ 8}
    (fun ⟨j, _⟩ => ⟨[(0, .c (.s (mkS l))), (4, .c (.s (mkS p8))), (5, .c (.i .u64 (le8 (p8.drop j) : Nat))), (6, .c (.i .i64 ((j : Int) - 1)))], []⟩) (fun j => j.1)
    ⟨⟨8, Nat.le_refl _⟩, [], ?_⟩ ?_
  · (repeat' first | refine And.intro ?_ ?_ | exact xeC | fail)
    rw [List.drop_of_length_le (by omega)]
    rfl
  rintro ⟨j, hj⟩
  have hlj := le8_lt (p8.drop j)
  rw [List.length_drop, h8] at hlj
  have hw : IntKind.u64.wrap (((mkS l).size : Int) - 13) = ((mkS l).size : Int) - 13 := by rw [IntKind.wrap_u64]; omega
  cases j with
  | succ k =>
    have hdk := drop_consG p8 (k := k) (by omega)
    have ek : (((k + 1 : Nat) : Int) - 1).toNat = k := by omega
    have hlk : le8 (p8.drop (k + 1)) < 72057594037927936 := by
      have : 256 ^ (8 - (k + 1)) ≤ 256 ^ 7 := Nat.pow_le_pow_right (by omega) (by omega)
      omega
    repeat' (first | (fail_if_success (with_reducible refine xstp ?_)); first | ((with_reducible refine And.intro (fun (hb : _ = true) => ?_) (fun (hb : _ = false) => ?_)) <;> replace hb := xnC hb <;> (try first | exact xfC | exact bff hb (by assumption) | exact bff (by assumption) hb)) | (with_reducible refine Both.mk ?_ ?_) | ((with_reducible refine And.intro ?_ ?_); focus exact xoC) | ((with_reducible refine Or.inl ⟨?_, ?_, ?_⟩); (focus rfl); focus exact xaC) | ((with_reducible refine xwB ?_ ?_); focus exact xaC) | ((with_reducible refine xwC ?_ ?_); focus exact xaC) | ((with_reducible refine xwD ?_ ?_); focus exact xaC) | ((with_reducible refine xwE ?_ ?_); focus exact xaC) | (with_reducible intro hc; (try simp only [capsP, and_true] at hc); (try exact xfC)) | ((fail_if_success (with_reducible first | refine xgon ?_ | intro _)); (conv => whnf); (fail_if_success (fail_if_success (with_reducible first | refine xstp ?_ | refine Both.mk ?_ ?_ | refine xgon ?_ | intro _)))))
    rw [ek, getB (by omega)]
    refine ⟨⟨k, by omega⟩, [], by simp only; omega, ?_⟩
    (repeat' first | refine And.intro ?_ ?_ | exact xeC | fail)
    · rw [or8 _ _ hlk, hdk, le8_cons]
    · omega
  | zero =>
    rw [List.drop_zero] at hlj
    have hsl : ∀ a, a ≤ l.length - 13 → (mkS l).extract a ((l.length : Int) - 13).toNat = mkS ((l.take (l.length - 13)).drop a) := fun a _ => by rw [mkS_ext, show ((l.length : Int) - 13).toNat = l.length - 13 by omega]
    have hA0 : bgA l = le8 (p8.drop 0) := by rw [List.drop_zero]; exact hA
    have hXd : (bgX l).1.length ≤ 100000000 := by
      have := exaL_len ((l.take (l.length - 13)).drop (bgA l))
      rw [List.length_drop, List.length_take] at this
      unfold bgX
      omega
    repeat' (first | (fail_if_success (with_reducible refine xstp ?_)); first | ((with_reducible refine And.intro (fun (hb : _ = true) => ?_) (fun (hb : _ = false) => ?_)) <;> replace hb := xnC hb <;> (try first | exact xfC | exact bff hb (by assumption) | exact bff (by assumption) hb)) | (with_reducible refine Both.mk ?_ ?_) | ((with_reducible refine And.intro ?_ ?_); focus exact xoC) | ((with_reducible refine Or.inl ⟨?_, ?_, ?_⟩); (focus rfl); focus exact xaC) | ((with_reducible refine xwB ?_ ?_); focus exact xaC) | ((with_reducible refine xwC ?_ ?_); focus exact xaC) | ((with_reducible refine xwD ?_ ?_); focus exact xaC) | ((with_reducible refine xwE ?_ ?_); focus exact xaC) | (with_reducible intro hc; (try simp only [capsP, and_true] at hc); (try exact xfC)) | ((fail_if_success (with_reducible first | refine xgon ?_ | intro _)); (conv => whnf); (fail_if_success (fail_if_success (with_reducible first | refine xstp ?_ | refine Both.mk ?_ ?_ | refine xgon ?_ | intro _)))))
    · skip
      have hE : bgE l = 2 := by unfold bgE; rw [if_neg (by omega), if_pos (fun q => by have := q.2.2.1; omega)]
      rw [hE]
      refine FinK.mk ⟨[], _, _, .inl ⟨by decide, rfl, rfl⟩, ?_⟩
      (repeat' first | refine And.intro ?_ ?_ | exact xeC | fail)
    · skip
      have hE : bgE l = 2 := by unfold bgE; rw [if_neg (by omega), if_pos (fun q => by have := q.2.2.2; omega)]
      rw [hE]
      refine FinK.mk ⟨[], _, _, .inl ⟨by decide, rfl, rfl⟩, ?_⟩
      (repeat' first | refine And.intro ?_ ?_ | exact xeC | fail)
    rw [← hA0, Int.toNat_natCast, hz, hsl (bgA l) (by omega)]
    have hB : ((l.take (l.length - 13)).drop (bgA l)).length ≤ 100000000 := by rw [List.length_drop, List.length_take]; omega
    refine cH41bM3 (σ := []) (nl := []) (cexa ((l.take (l.length - 13)).drop (bgA l)) hB) ?_
    rintro v h' ⟨rfl, rfl⟩ hcaps
    refine rH41bM0 ?_
    have hX : exaL ((l.take (l.length - 13)).drop (bgA l)) = bgX l := rfl
    rw [hX]
    have hE1 : bgE l = if (bgX l).2 ≠ 0 then (bgX l).2 else if (ixL (mkS (bgX l).1)).2 = true ∧ ordE (ixL (mkS (bgX l).1)).1 (bgA l) then 0 else 2 := by
      unfold bgE
      rw [if_neg (by omega), if_neg (fun q => q ⟨hh1, by assumption, by omega, by omega⟩)]
    repeat' (first | (fail_if_success (with_reducible refine xstp ?_)); first | ((with_reducible refine And.intro (fun (hb : _ = true) => ?_) (fun (hb : _ = false) => ?_)) <;> replace hb := xnC hb <;> (try first | exact xfC | exact bff hb (by assumption) | exact bff (by assumption) hb)) | (with_reducible refine Both.mk ?_ ?_) | ((with_reducible refine And.intro ?_ ?_); focus exact xoC) | ((with_reducible refine Or.inl ⟨?_, ?_, ?_⟩); (focus rfl); focus exact xaC) | ((with_reducible refine xwB ?_ ?_); focus exact xaC) | ((with_reducible refine xwC ?_ ?_); focus exact xaC) | ((with_reducible refine xwD ?_ ?_); focus exact xaC) | ((with_reducible refine xwE ?_ ?_); focus exact xaC) | (with_reducible intro hc; (try simp only [capsP, and_true] at hc); (try exact xfC)) | ((fail_if_success (with_reducible first | refine xgon ?_ | intro _)); (conv => whnf); (fail_if_success (fail_if_success (with_reducible first | refine xstp ?_ | refine Both.mk ?_ ?_ | refine xgon ?_ | intro _)))))
    · rw [if_pos (by omega)] at hE1
      rw [hE1]
      refine FinK.mk ⟨[], _, _, .inl ⟨by omega, rfl, rfl⟩, ?_⟩
      (repeat' first | refine And.intro ?_ ?_ | exact xeC | fail)
    rw [if_neg (by omega)] at hE1
    have hix := ixL_len (mkS (bgX l).1)
    have hzx : (mkS (bgX l).1).size = (bgX l).1.length := rfl
    refine cH41bM3 (σ := []) (nl := []) (creadIndex (mkS (bgX l).1) (by omega)) ?_
    rintro v h' ⟨X, c, hes, hv, hh⟩ hcaps
    subst hv hh
    have hO := bgO_L l
    have hO1 : (bgO l).s = l := rfl
    have hO2 : (bgO l).ix = bgA l := rfl
    generalize hixl : ixL (mkS (bgX l).1) = r at hes hix hE1 hO ⊢
    obtain ⟨EL, ok⟩ := r
    clear hixl hX
    simp only at hes hix hE1 hO
    have hel : (es X).length = X.length := List.length_map _
    rw [hes] at hel
    have hi64 : IntKind.i64.wrap ((bgA l : Nat) : Int) = ((bgA l : Nat) : Int) := by rw [IntKind.wrap_i64]; omega
    refine rH41bM1 ?_
    repeat' (first | (fail_if_success (with_reducible refine xstp ?_)); first | ((with_reducible refine And.intro (fun (hb : _ = true) => ?_) (fun (hb : _ = false) => ?_)) <;> replace hb := xnC hb <;> (try first | exact xfC | exact bff hb (by assumption) | exact bff (by assumption) hb)) | (with_reducible refine Both.mk ?_ ?_) | ((with_reducible refine And.intro ?_ ?_); focus exact xoC) | ((with_reducible refine Or.inl ⟨?_, ?_, ?_⟩); (focus rfl); focus exact xaC) | ((with_reducible refine xwB ?_ ?_); focus exact xaC) | ((with_reducible refine xwC ?_ ?_); focus exact xaC) | ((with_reducible refine xwD ?_ ?_); focus exact xaC) | ((with_reducible refine xwE ?_ ?_); focus exact xaC) | (with_reducible intro hc; (try simp only [capsP, and_true] at hc); (try exact xfC)) | ((fail_if_success (with_reducible first | refine xgon ?_ | intro _)); (conv => whnf); (fail_if_success (fail_if_success (with_reducible first | refine xstp ?_ | refine Both.mk ?_ ?_ | refine xgon ?_ | intro _)))))
    · skip
      have hE : bgE l = 2 := by rw [hE1, if_neg (fun q => by rw [hb] at q; cases q.1)]
      rw [hE]
      refine FinK.mk ⟨[], _, _, .inl ⟨by decide, rfl, rfl⟩, ?_⟩
      (repeat' first | refine And.intro ?_ ?_ | exact xeC | fail)
    rw [hi64]
    refine cH41bM3 (σ := [.whole 0, .whole 1, .whole 2]) (nl := []) (cordered X c (bgA l) (by omega) (fun y hy => by have := hix.2 y.e (by rw [← hes]; exact List.mem_map.2 ⟨y, hy, rfl⟩); exact ⟨by omega, fun t ht => by have := this.2 t ht; omega⟩)) ?_ (hle := by (repeat' first | refine And.intro ?_ ?_ | exact xeC | fail) <;> exact xmC2)
    rintro v h' ⟨rfl, rfl⟩ hcaps
    rw [hes]
    refine rH41bM2 ?_
    repeat' (first | (fail_if_success (with_reducible refine xstp ?_)); first | ((with_reducible refine And.intro (fun (hb : _ = true) => ?_) (fun (hb : _ = false) => ?_)) <;> replace hb := xnC hb <;> (try first | exact xfC | exact bff hb (by assumption) | exact bff (by assumption) hb)) | (with_reducible refine Both.mk ?_ ?_) | ((with_reducible refine And.intro ?_ ?_); focus exact xoC) | ((with_reducible refine Or.inl ⟨?_, ?_, ?_⟩); (focus rfl); focus exact xaC) | ((with_reducible refine xwB ?_ ?_); focus exact xaC) | ((with_reducible refine xwC ?_ ?_); focus exact xaC) | ((with_reducible refine xwD ?_ ?_); focus exact xaC) | ((with_reducible refine xwE ?_ ?_); focus exact xaC) | (with_reducible intro hc; (try simp only [capsP, and_true] at hc); (try exact xfC)) | ((fail_if_success (with_reducible first | refine xgon ?_ | intro _)); (conv => whnf); (fail_if_success (fail_if_success (with_reducible first | refine xstp ?_ | refine Both.mk ?_ ?_ | refine xgon ?_ | intro _)))))
    · skip
      have hE : bgE l = 2 := by rw [hE1, if_neg (fun q => hb q.2)]
      rw [hE]
      refine FinK.mk ⟨[], _, _, .inl ⟨by decide, rfl, rfl⟩, ?_⟩
      (repeat' first | refine And.intro ?_ ?_ | exact xeC | fail)
    rw [if_pos ⟨by assumption, hb⟩] at hE1
    rw [hi64]
    refine FinK.mk ⟨[3, 0, 1, 2], _, _, .inr ⟨hE1, X, c, hes.trans hO.symm, rfl, rfl⟩, ?_⟩
    (repeat' first | refine And.intro ?_ ?_ | exact xeC | fail)
    all_goals first
      | exact xmC2
      | skip
end Go.Proofs.Ytkjkbpnhocjenaa


namespace Go.Proofs.Ytkjkbpnhocjenaa
open Go.X
def mpU (U : List Tl) (k : Nat) : List Me := (List.range k).map fun i => (i, (U.getD i default).1, (U.getD i default).2)
theorem mpU_len (U : List Tl) (k : Nat) : (mpU U k).length = k := by simp [mpU]
theorem mpU_at {U : List Tl} {k i : Nat} (h : i < k) : (mpU U k).getD i default = (i, (U.getD i default).1, (U.getD i default).2) := by
  simp [mpU, List.getD, h]
theorem mpU_succ (U : List Tl) (k : Nat) : mpU U (k + 1) = mpU U k ++ [(k, (U.getD k default).1, (U.getD k default).2)] := by
  simp [mpU, List.range_succ]
theorem okTs_srt {U : List Tl} (h : okTs U) : SrtT U ∧ ∀ t ∈ U, 1 ≤ t.2 := by
  have hs : ∀ b, b < U.length → ∀ a, a < b → (U.getD a default).1 < (U.getD b default).1 := by
    intro b
    induction b with
    | zero => intro _ a ha; omega
    | succ b ih =>
      intro hb a ha
      have h1 := (h (b + 1) hb).2.1 (by omega)
      rw [Nat.add_sub_cancel] at h1
      rcases Nat.lt_or_ge a b with q | q
      · exact lt_tr (ih (by omega) a q) h1
      · obtain rfl : a = b := by omega
        exact h1
  refine ⟨?_, fun t ht => ?_⟩
  · unfold SrtT
    rw [List.pairwise_map, List.pairwise_iff_getElem]
    intro i j hi hj hij
    have := hs j hj i hij
    rw [getD_at hi, getD_at hj] at this
    exact this
  · obtain ⟨i, hi, e⟩ := List.mem_iff_getElem.1 ht
    have := (h i hi).2.2
    rw [getD_at hi, e] at this
    exact this
structure DOk (M : List Me) (U : List Tl) (l : List Rc) : Prop where
  ne : ∀ a b, a < b → b < M.length → (M.getD a default).2.1 ≠ (M.getD b default).2.1
  va : ∀ a, a < M.length → getT U (M.getD a default).2.1 = (M.getD a default).2.2 + cntL l (M.getD a default).2.1 ∧ 1 ≤ (M.getD a default).2.2
  al : ∀ t, (∀ a, a < M.length → (M.getD a default).2.1 ≠ t) → getT U t = cntL l t
theorem mpU_ne {U : List Tl} (h : SrtT U) {k : Nat} (hk : k ≤ U.length) : ∀ a b, a < b → b < (mpU U k).length → ((mpU U k).getD a default).2.1 ≠ ((mpU U k).getD b default).2.1 := by
  intro a b hab hb
  rw [mpU_len] at hb
  rw [mpU_at (by omega), mpU_at hb]
  have hn := srt_nodup h
  rw [List.nodup_iff_pairwise_ne, List.pairwise_map, List.pairwise_iff_getElem] at hn
  have := hn a b (by omega) (by omega) hab
  rw [getD_at (show a < U.length by omega), getD_at (show b < U.length by omega)]
  exact this
theorem getT_no {U : List Tl} {t : List UInt8} (h : t ∉ U.map Prod.fst) : getT U t = 0 := by
  unfold getT
  rw [List.find?_eq_none.2]
  intro p hp e
  exact h (List.mem_map.2 ⟨p, hp, by simpa using e⟩)
theorem DOk.init {U : List Tl} (h : SrtT U) (h1 : ∀ t ∈ U, 1 ≤ t.2) : DOk (mpU U U.length) U [] := by
  refine ⟨mpU_ne h (Nat.le_refl _), fun a ha => ?_, fun t ht => ?_⟩
  · rw [mpU_len] at ha
    rw [mpU_at ha]
    have hm : U.getD a default ∈ U := by rw [getD_at ha]; exact List.getElem_mem _
    exact ⟨getT_at (srt_nodup h) hm, h1 _ hm⟩
  · rw [getT_no]
    · rfl
    · intro hm
      obtain ⟨p, hp, e⟩ := List.mem_map.1 hm
      obtain ⟨i, hi, e2⟩ := List.mem_iff_getElem.1 hp
      refine ht i (by rw [mpU_len]; exact hi) ?_
      rw [mpU_at hi, getD_at hi, e2]
      exact e
theorem DOk.dec {M : List Me} {U : List Tl} {l : List Rc} {r : Rc} (h : DOk M U l) {i : Nat} (hi : i < M.length) (hk : (M.getD i default).2.1 = r.tp) (h2 : 2 ≤ (M.getD i default).2.2) :
    DOk (M.set i ((M.getD i default).1, r.tp, (M.getD i default).2.2 - 1)) U (l ++ [r]) := by
  have g2 : ∀ a, ((M.set i ((M.getD i default).1, r.tp, (M.getD i default).2.2 - 1)).getD a default).2.1 = (M.getD a default).2.1 := fun a => by
    rw [getD_set _ _ _ _ hi]; split
    · rename_i e; subst e; exact hk.symm
    · rfl
  refine ⟨fun a b hab hb => ?_, fun a ha => ?_, fun t ht => ?_⟩
  · rw [List.length_set] at hb
    rw [g2, g2]; exact h.ne a b hab hb
  · rw [List.length_set] at ha
    rw [g2, cntL_snoc, getD_set _ _ _ _ hi]
    have hv := h.va a ha
    by_cases e : a = i
    · subst e
      rw [if_pos rfl, if_pos hk]
      simp only
      omega
    · rw [if_neg e, if_neg]
      · simpa using hv
      · intro q
        rcases (by omega : a < i ∨ i < a) with hh | hh
        · exact h.ne a i hh hi (q.trans hk.symm)
        · exact h.ne i a hh ha (hk.trans q.symm)
  · have hne : t ≠ r.tp := fun e => ht i (by rwa [List.length_set]) (by rw [g2, hk, e])
    rw [cntL_snoc, if_neg hne]
    exact h.al t fun a ha => by rw [← g2]; exact ht a (by rwa [List.length_set])
theorem getD_cut {α : Type} [Inhabited α] (M : List α) {i : Nat} (hi : i < M.length) (q : Nat) : (M.take i ++ M.drop (i + 1)).getD q default = if q < i then M.getD q default else M.getD (q + 1) default := by
  simp only [List.getD]
  by_cases h : q < i
  · rw [if_pos h, List.getElem?_append_left (by rw [List.length_take]; omega), List.getElem?_take, if_pos h]
  · rw [if_neg h, List.getElem?_append_right (by rw [List.length_take]; omega), List.getElem?_drop, List.length_take, Nat.min_eq_left (by omega), show i + 1 + (q - i) = q + 1 by omega]
theorem cut_len {α : Type} (M : List α) {i : Nat} (hi : i < M.length) : (M.take i ++ M.drop (i + 1)).length = M.length - 1 := by
  simp only [List.length_append, List.length_take, List.length_drop]; omega
theorem DOk.del {M : List Me} {U : List Tl} {l : List Rc} {r : Rc} (h : DOk M U l) {i : Nat} (hi : i < M.length) (hk : (M.getD i default).2.1 = r.tp) (h2 : (M.getD i default).2.2 = 1) :
    DOk (M.take i ++ M.drop (i + 1)) U (l ++ [r]) := by
  have hl := cut_len M hi
  have other : ∀ a, a < M.length → a ≠ i → (M.getD a default).2.1 ≠ r.tp := fun a ha hne q => by
    rcases (by omega : a < i ∨ i < a) with hh | hh
    · exact h.ne a i hh hi (q.trans hk.symm)
    · exact h.ne i a hh ha (hk.trans q.symm)
  refine ⟨fun a b hab hb => ?_, fun a ha => ?_, fun t ht => ?_⟩
  · rw [hl] at hb
    rw [getD_cut M hi, getD_cut M hi]
    split
    · split
      · exact h.ne a b hab (by omega)
      · exact h.ne a (b + 1) (by omega) (by omega)
    · rw [if_neg (by omega)]
      exact h.ne (a + 1) (b + 1) (by omega) (by omega)
  · rw [hl] at ha
    rw [getD_cut M hi, cntL_snoc]
    split
    · rw [if_neg (other a (by omega) (by omega))]
      simpa using h.va a (by omega)
    · rw [if_neg (other (a + 1) (by omega) (by omega))]
      simpa using h.va (a + 1) (by omega)
  · by_cases e : t = r.tp
    · subst e
      have := h.va i hi
      rw [hk, h2] at this
      rw [cntL_snoc, if_pos rfl]
      omega
    · rw [cntL_snoc, if_neg e]
      refine h.al t fun a ha q => ?_
      rcases Nat.lt_or_ge a i with h3 | h3
      · exact ht a (by rw [hl]; omega) (by rw [getD_cut M hi, if_pos h3]; exact q)
      · by_cases h4 : a = i
        · subst h4; exact e (q.symm.trans hk)
        · exact ht (a - 1) (by rw [hl]; omega) (by rw [getD_cut M hi, if_neg (by omega), show a - 1 + 1 = a by omega]; exact q)
theorem cntL_take (l : List Rc) (k : Nat) (t : List UInt8) : cntL (l.take k) t ≤ cntL l t := by
  unfold cntL
  conv => rhs; rw [← List.take_append_drop k l]
  rw [List.filter_append, List.length_append]
  omega
theorem DOk.no {M : List Me} {U : List Tl} {l : List Rc} {k : Nat} (h : DOk M U (l.take k)) (hk : k < l.length) (hn : ∀ a, a < M.length → (M.getD a default).2.1 ≠ (l.getD k default).tp) : tal l ≠ U := by
  intro e
  have h1 := h.al _ hn
  have h2 := cntL_take l (k + 1) (l.getD k default).tp
  rw [take_snocG l hk, cntL_snoc, if_pos rfl] at h2
  rw [← e, (tal_inv l).2.2] at h1
  omega
theorem tl_ext {A B : List Tl} (hA : SrtT A) (hB : SrtT B) (h1 : ∀ t ∈ A, 1 ≤ t.2) (h2 : ∀ t ∈ B, 1 ≤ t.2) (h : ∀ t, getT A t = getT B t) : A = B := by
  have key : ∀ {A : List Tl}, SrtT A → (∀ t ∈ A, 1 ≤ t.2) → ∀ t, t ∈ A.map Prod.fst ↔ 0 < getT A t := by
    intro A hA h1 t
    constructor
    · intro hm
      obtain ⟨p, hp, rfl⟩ := List.mem_map.1 hm
      rw [getT_at (srt_nodup hA) hp]
      exact h1 p hp
    · intro hp
      by_cases hm : t ∈ A.map Prod.fst
      · exact hm
      · rw [getT_no hm] at hp; omega
  have e : A.map Prod.fst = B.map Prod.fst := srt_ext hA hB fun t => by rw [key hA h1, key hB h2, h]
  rw [tl_eta (srt_nodup hA), tl_eta (srt_nodup hB), e]
  exact List.map_congr_left fun t _ => by rw [h]
theorem tal_one {l : List Rc} : ∀ t ∈ tal l, 1 ≤ t.2 := fun t ht => by
  have h1 := getT_at (srt_nodup (tal_inv l).1) ht
  rw [(tal_inv l).2.2] at h1
  obtain ⟨r, hr, e⟩ := List.mem_map.1 (((tal_inv l).2.1 t.1).1 (List.mem_map.2 ⟨t, ht, rfl⟩))
  rw [← h1]
  unfold cntL
  exact List.length_pos_of_mem (List.mem_filter.2 ⟨hr, by simpa using e⟩)
theorem DOk.fin {M : List Me} {U : List Tl} {l : List Rc} (h : DOk M U l) (hU : SrtT U) (h1 : ∀ t ∈ U, 1 ≤ t.2) : tal l = U ↔ M.length = 0 := by
  constructor
  · intro e
    rcases Nat.eq_zero_or_pos M.length with h0 | h0
    · exact h0
    · have := h.va 0 h0
      rw [← e, (tal_inv l).2.2] at this
      omega
  · intro h0
    refine tl_ext (tal_inv l).1 hU tal_one h1 fun t => ?_
    rw [(tal_inv l).2.2]
    exact (h.al t fun a ha => by omega).symm
end Go.Proofs.Ytkjkbpnhocjenaa


namespace Go.Proofs.Ytkjkbpnhocjenaa
open Go.Shelf
def lays194_ren : Go.Shelf.Ren := ⟨fun | 194 => 49 | n => n, fun | 31 => 45 | 9 => 9 | 3 => 3 | 4 => 4 | 0 => 0 | n => n, fun | n => n⟩
theorem lays194 : Go.Proofs.Lays.n194 Try.prog lays194_ren := {
  mixed := by kernel_rfl
  f194 := Try.func49.trans (congrArg some (by kernel_rfl))
  t0 := Try.underlying0
  a0 := Try.isAgg0
  z0 := Try.sizeOf0
  v0 := Try.zeroValue0
  t3 := Try.underlying3
  a3 := Try.isAgg3
  z3 := Try.sizeOf3
  v3 := Try.zeroValue3
  t4 := Try.underlying4
  a4 := Try.isAgg4
  z4 := Try.sizeOf4
  v4 := Try.zeroValue4
  t9 := Try.underlying9
  a9 := Try.isAgg9
  z9 := Try.sizeOf9
  v9 := Try.zeroValue9
  t31 := Try.underlying45
  a31 := Try.isAgg45
  z31 := Try.sizeOf45
  v31 := Try.zeroValue45 }
open Go.X
def cmpS (l : List (List UInt8)) : List (List UInt8) := Lib.compact l ++ List.replicate (l.length - (Lib.compact l).length) []
theorem cmpLaw : TurnLaw Try.prog 49 encStr cmpS (fun l => (Lib.compact l).length) :=
  ⟨fun blk off cap zs w h1 h2 h3 h4 => (Any.slices_Compact_string lays194 blk off cap zs w h1 (by omega) h4).mono fun e w' h => by
      obtain ⟨rfl, q, rfl⟩ := h
      exact ⟨rfl, q, #[], by unfold Go.Sort.grow cmpS; simp only [Array.append_empty]⟩,
   fun p cap w => Any.slices_Compact_string_empty lays194 p cap w,
   fun l => by have := Lib.compact_length_le l; simp [cmpS]; omega,
   fun l => Lib.compact_length_le l⟩
theorem cCompact (zs : List (List UInt8)) (c : Nat) (hz : zs.length < 4611686018427387904) :
    Ctr Try.prog 49 [.c (.sl 0 0 1 0 zs.length c)] [.one (stR true zs c)] fun v h => v = .c (.sl 0 0 1 0 (Lib.compact zs).length c) ∧ h = [.one (.row true false 9 1 zs.length c (rowOf encSt (cmpS zs)))] :=
  turn_ctr cmpLaw (fun _ _ => by kernel_rfl) (fun x => .s (mkS x)) (fun _ _ => rfl) (fun _ => rfl) false 9 zs c hz
end Go.Proofs.Ytkjkbpnhocjenaa


namespace Go.Proofs.Ytkjkbpnhocjenaa
open Go.X
theorem cmp_inv (d : Array (List UInt8)) (hs : ∀ i j, i ≤ j → j < d.size → d[i]! ≤ d[j]!) : ∀ m, m ≤ d.size → (Lib.compactUpTo d m).Pairwise (· < ·) ∧ ∀ x, x ∈ Lib.compactUpTo d m ↔ ∃ j, j < m ∧ d[j]! = x
  | 0, _ => by simp [Lib.compactUpTo]
  | m + 1, hm => by
    obtain ⟨h1, h2⟩ := cmp_inv d hs m (by omega)
    rw [Lib.compactUpTo_succ]
    by_cases hk : Lib.keeps d m = true
    · rw [if_pos hk]
      refine ⟨List.pairwise_append.2 ⟨h1, by simp, fun x hx y hy => ?_⟩, fun x => ?_⟩
      · obtain ⟨j, hj, rfl⟩ := (h2 x).1 hx
        rw [List.mem_singleton.1 hy]
        have hne : d[m]! ≠ d[m - 1]! := by
          rcases (of_decide_eq_true hk : m = 0 ∨ d[m]! ≠ d[m - 1]!) with h | h
          · omega
          · exact h
        have ha := hs j (m - 1) (by omega) (by omega)
        have hb := hs (m - 1) m (by omega) (by omega)
        rcases lt_tri d[j]! d[m]! with q | q | q
        · exact q
        · exfalso
          rw [q] at ha
          exact hne (List.le_antisymm ha hb)
        · exact absurd q (List.not_lt.2 (List.le_trans ha hb))
      · rw [List.mem_append, h2, List.mem_singleton]
        constructor
        · rintro (⟨j, hj, e⟩ | e)
          · exact ⟨j, by omega, e⟩
          · exact ⟨m, by omega, e.symm⟩
        · rintro ⟨j, hj, e⟩
          rcases Nat.lt_or_ge j m with h | h
          · exact .inl ⟨j, h, e⟩
          · obtain rfl : j = m := by omega
            exact .inr e.symm
    · rw [if_neg hk, List.append_nil]
      refine ⟨h1, fun x => ?_⟩
      rw [h2]
      have hk2 : ¬ (m = 0 ∨ d[m]! ≠ d[m - 1]!) := fun q => hk (decide_eq_true q)
      constructor
      · rintro ⟨j, hj, e⟩
        exact ⟨j, by omega, e⟩
      · rintro ⟨j, hj, e⟩
        rcases Nat.lt_or_ge j m with h | h
        · exact ⟨j, h, e⟩
        · obtain rfl : j = m := by omega
          have h0 : 0 < j := Nat.pos_of_ne_zero fun q => hk2 (.inl q)
          have he : d[j]! = d[j - 1]! := Decidable.of_not_not fun q => hk2 (.inr q)
          exact ⟨j - 1, by omega, by rw [← he]; exact e⟩
theorem cmp_srt {l : List (List UInt8)} (h : l.Pairwise (· ≤ ·)) : (Lib.compact l).Pairwise (· < ·) ∧ ∀ x, x ∈ Lib.compact l ↔ x ∈ l := by
  have hg : ∀ i, i < l.length → l.toArray[i]! = l.getD i default := fun i hi => by simp [List.getD, hi]
  have hs : ∀ i j, i ≤ j → j < l.toArray.size → l.toArray[i]! ≤ l.toArray[j]! := by
    intro i j hij hj
    have hj : j < l.length := by simpa using hj
    rw [hg i (by omega), hg j hj]
    rcases Nat.lt_or_ge i j with q | q
    · have := List.pairwise_iff_getElem.1 h i j (by omega) hj q
      rw [getD_at (by omega), getD_at hj]
      exact this
    · obtain rfl : i = j := by omega
      exact List.le_refl _
  obtain ⟨h1, h2⟩ := cmp_inv l.toArray hs l.length (by simp)
  refine ⟨h1, fun x => (h2 x).trans ?_⟩
  constructor
  · rintro ⟨j, hj, e⟩
    rw [hg j hj, getD_at hj] at e
    rw [← e]
    exact List.getElem_mem _
  · intro hx
    obtain ⟨j, hj, e⟩ := List.mem_iff_getElem.1 hx
    exact ⟨j, hj, by rw [hg j hj, getD_at hj]; exact e⟩
theorem srtS_le (O : List (List UInt8)) : (srtS O).Pairwise (· ≤ ·) := by
  unfold srtS
  have h1 : (O.mergeSort fun x y => decide (x ≤ y)).Pairwise fun a b => decide (a ≤ b) = true := List.pairwise_mergeSort (fun a b c => by simpa using List.le_trans) (fun a b => by simpa using List.le_total a b) O
  exact h1.imp fun {a b} h => by simpa using h
def flatT (b : Bg) : List Tl := b.L.flatMap En.T
def foldT (F : List Tl) : List Tl := F.foldl (fun a t => talA a t.1 t.2) []
theorem foldT_snoc (F : List Tl) (t : Tl) : foldT (F ++ [t]) = talA (foldT F) t.1 t.2 := by simp [foldT]
theorem foldT_inv (F : List Tl) : SrtT (foldT F) ∧ ∀ t, t ∈ (foldT F).map Prod.fst ↔ t ∈ F.map Prod.fst := by
  suffices ∀ k, k ≤ F.length → SrtT (foldT (F.take k)) ∧ ∀ t, t ∈ (foldT (F.take k)).map Prod.fst ↔ t ∈ (F.take k).map Prod.fst by
    have := this F.length (Nat.le_refl _)
    rwa [List.take_length] at this
  intro k
  induction k with
  | zero => intro _; simp [foldT, SrtT]
  | succ k ih =>
    intro hk
    obtain ⟨h1, h2⟩ := ih (by omega)
    rw [take_snocG F (by omega), foldT_snoc]
    refine ⟨talA_srt h1, fun t => ?_⟩
    rw [talA_mem, h2, List.map_append, List.mem_append]
    simp only [List.map_cons, List.map_nil, List.mem_singleton]
    exact Or.comm
/-- The topics of a bag. -/
def topB (b : Bg) : List (List UInt8) := (allT b).map Prod.fst
theorem topB_of (b : Bg) : Lib.compact (srtS ((flatT b).map Prod.fst)) = topB b := by
  have h := cmp_srt (srtS_le ((flatT b).map Prod.fst))
  refine srt_ext h.1 (foldT_inv (flatT b)).1 fun x => ?_
  rw [h.2, srtS_mem]
  exact ((foldT_inv (flatT b)).2 x).symm
def cntF (F : List Tl) (t : List UInt8) : Nat := (F.map fun p => if t = [] ∨ p.1 = t then p.2 else 0).sum
theorem cntF_snoc (F : List Tl) (p : Tl) (t : List UInt8) : cntF (F ++ [p]) t = cntF F t + if t = [] ∨ p.1 = t then p.2 else 0 := by simp [cntF]
theorem cntF_app (F G : List Tl) (t : List UInt8) : cntF (F ++ G) t = cntF F t + cntF G t := by simp [cntF]
theorem cntF_talA (t u : List UInt8) (n : Nat) : ∀ F, cntF (talA F u n) t = cntF F t + if t = [] ∨ u = t then n else 0
  | [] => by simp [talA, cntF]
  | (v, m) :: F => by
    have ih := cntF_talA t u n F
    unfold talA
    split
    · simp only [cntF, List.map_cons, List.sum_cons]
      omega
    · split
      · rename_i h
        subst h
        simp only [cntF, List.map_cons, List.sum_cons]
        split <;> omega
      · simp only [cntF, List.map_cons, List.sum_cons] at ih ⊢
        omega
end Go.Proofs.Ytkjkbpnhocjenaa


namespace Go.Proofs.Ytkjkbpnhocjenaa
open Go.X
set_option linter.unusedSimpArgs false
set_option linter.unusedVariables false
open P4
open P5
structure BOk (b : Bg) : Prop where
  len : b.s.length ≤ 100000000
  ix : b.ix ≤ b.s.length
  ord : ordE b.L b.ix
  n : b.L.length ≤ 1000000000
  flat : (flatT b).length ≤ 1000000
  sz : ∀ y ∈ b.L, y.T.length ≤ 1000000000 ∧ ∀ t ∈ y.T, t.1.length ≤ 40 ∧ t.2 ≤ 1099511627776
theorem BOk.at {b : Bg} (h : BOk b) {k : Nat} (hk : k < b.L.length) : okE1 b.L b.ix k ∧ (b.L.getD k default).off ≤ endE b k ∧ endE b k ≤ b.s.length ∧ (b.L.getD k default).T.length ≤ 1000000000 ∧ ∀ t ∈ (b.L.getD k default).T, t.1.length ≤ 40 ∧ t.2 ≤ 1099511627776 := by
  have h1 := h.ord.2 k hk
  have h2 := h.sz (b.L.getD k default) (by rw [getD_at hk]; exact List.getElem_mem _)
  have h3 := h.ix
  refine ⟨h1, ?_, ?_, h2.1, h2.2⟩
  · unfold endE
    split
    · rename_i h4
      have := (h.ord.2 (k + 1) h4).1.2.1 (by omega)
      rw [Nat.add_sub_cancel] at this
      omega
    · have := h1.1.2.2
      omega
  · unfold endE
    split
    · rename_i h4
      have := (h.ord.2 (k + 1) h4).1.2.2
      omega
    · exact h3
theorem chE_eq {b : Bg} {k : Nat} {xs : List UInt8} {xe : Nat} {R : List Rc} (hx : chX b k = (xs, xe)) (hR : recL (mkS xs) = R) :
    chE b k = (if xe ≠ 0 then xe else if 0 < R.length ∧ (R.getD 0 default).at_ = (b.L.getD k default).fi ∧ (R.getD (R.length - 1) default).at_ = (b.L.getD k default).la ∧ tal R = (b.L.getD k default).T then 0 else 2) ∧ chL b k = if chE b k = 0 then R else [] := by
  have h1 : chR1 b k = R := by unfold chR1; rw [hx]; exact hR
  have h2 : chOk b k ↔ (0 < R.length ∧ (R.getD 0 default).at_ = (b.L.getD k default).fi ∧ (R.getD (R.length - 1) default).at_ = (b.L.getD k default).la ∧ tal R = (b.L.getD k default).T) := by unfold chOk; rw [h1]
  refine ⟨?_, ?_⟩
  · unfold chE
    rw [hx]
    simp only
    by_cases h3 : xe ≠ 0
    · rw [if_pos h3, if_pos h3]
    · rw [if_neg h3, if_neg h3]
      by_cases h4 : chOk b k
      · rw [if_pos h4, if_pos (h2.1 h4)]
      · rw [if_neg h4, if_neg (fun q => h4 (h2.2 q))]
  · unfold chL
    rw [h1]
theorem recF_len {s : ByteArray} : ∀ (n a : Nat) (la : Int) (L : List Rc), a ≤ s.size → recF s n a la = some L → L.length ≤ s.size - a
  | 0, a, la, L, _, h => by simp [recF] at h
  | n + 1, a, la, L, ha, h => by
    unfold recF at h
    split at h
    · cases h; simp
    · split at h
      · rename_i ho
        have h1 := rdPl_pos ho.1
        have h2 := rdPl_mono (e := 0) ha
        cases hq : recF s n (rdPl s a 0).2.1 ((rdAt s a 0).1 : Nat) with
        | none => rw [hq] at h; cases h
        | some M =>
          rw [hq] at h
          cases h
          have := recF_len n _ _ M h2.2.1 hq
          simp only [List.length_cons]
          omega
      · cases h
theorem recL_len (s : ByteArray) : (recL s).length ≤ s.size := by
  unfold recL
  split
  · cases hq : recP s (rdU s 0 0).2.1 0 with
    | none => simp
    | some L =>
      have h1 := rdU_le (s := s) (a := 0) (e := 0) (Nat.zero_le _)
      have := recF_len _ _ _ L h1.1 hq
      simp only [Option.getD_some]
      omega
  · simp
theorem mpR_set {M : List Me} {b : Nat} (hb : b < M.length) {t : List UInt8} {n : Nat} {z : Int} (hz : z = (n : Nat)) (j : Nat) (_ : j < (M.set b ((M.getD b default).1, t, n)).length) :
    (if j = b then ((M.getD b default).1, Key.s (mkS t), E.c (.i .i64 z)) else ((M.getD j default).1, Key.s (mkS (M.getD j default).2.1), E.c (.i .i64 ((M.getD j default).2.2 : Nat)))) =
      (((M.set b ((M.getD b default).1, t, n)).getD j default).1, Key.s (mkS ((M.set b ((M.getD b default).1, t, n)).getD j default).2.1), E.c (.i .i64 (((M.set b ((M.getD b default).1, t, n)).getD j default).2.2 : Nat))) := by
  subst hz
  rw [getD_set _ _ _ _ hb]
  by_cases e : j = b
  · subst e; rw [if_pos rfl, if_pos rfl]
  · rw [if_neg e, if_neg e]
theorem mpR_new {M : List Me} {ck : Nat} {t : List UInt8} {n : Nat} (j : Nat) (hj : j < (M ++ [(ck, t, n)]).length) :
    (if j = M.length then (ck, Key.s (mkS t), E.c (.i .i64 (n : Nat))) else ((M.getD j default).1, Key.s (mkS (M.getD j default).2.1), E.c (.i .i64 ((M.getD j default).2.2 : Nat)))) =
      (((M ++ [(ck, t, n)]).getD j default).1, Key.s (mkS ((M ++ [(ck, t, n)]).getD j default).2.1), E.c (.i .i64 (((M ++ [(ck, t, n)]).getD j default).2.2 : Nat))) := by
  rw [getD_sn hj]
  by_cases e : j = M.length
  · subst e; rw [if_pos rfl, if_pos rfl]
  · rw [if_neg e, if_neg e]
theorem sk_s (x y : ByteArray) : (Key.s x).sk (Key.s y) = true := rfl
theorem mpR_cut {M : List Me} {a : Nat} (ha : a < M.length) {x : Nat × Key × E} (j : Nat) :
    (if j < a then (if j = a then x else ((M.getD j default).1, Key.s (mkS (M.getD j default).2.1), E.c (.i .i64 ((M.getD j default).2.2 : Nat)))) else (if j + 1 = a then x else ((M.getD (j + 1) default).1, Key.s (mkS (M.getD (j + 1) default).2.1), E.c (.i .i64 ((M.getD (j + 1) default).2.2 : Nat))))) =
      (((M.take a ++ M.drop (a + 1)).getD j default).1, Key.s (mkS ((M.take a ++ M.drop (a + 1)).getD j default).2.1), E.c (.i .i64 (((M.take a ++ M.drop (a + 1)).getD j default).2.2 : Nat))) := by
  rw [getD_cut M ha]
  by_cases h : j < a
  · rw [if_pos h, if_pos h, if_neg (by omega)]
  · rw [if_neg h, if_neg h, if_neg (by omega)]
theorem rH41bN0 {σ : List Sg} {H h' : List Fam} {v : T} {K : T → List Fam → Prop} {H' : List Fam} {v' : T} {N : Nat} (hk : K v' H') (hN : H.length = N := by (try simp only [↓List.length_cons, ↓List.length_nil, Nat.reduceAdd]) <;> rfl) (h : givesF σ N H σ h' = some H' := by (try simp (maxSteps := 1000000) only [givesF, setF, updF, Fam.zeroth, Fam.rk, Ck.rk, C.rk, E.rk, T.rk, key, List.map_cons, List.map_nil, List.cons_append, List.nil_append, List.length_cons, List.length_nil, Option.map_some, Option.bind_some, Nat.reduceAdd, Nat.zero_add, Nat.add_zero, Nat.add_sub_cancel_left, Int.toNat_natCast, reps, List.all_cons, List.all_nil, C.flat, List.append_eq, Bool.not_true, Bool.and_true, Bool.or_false, Bool.or_self, Bool.not_false, List.append_nil, Bool.and_self, ↓tpG_rk, ↓cnG_rk]) <;> rfl) (hv : v.rk σ N = v' := by (try simp only [givesF, setF, updF, Fam.zeroth, Fam.rk, Ck.rk, C.rk, E.rk, T.rk, key, List.map_cons, List.map_nil, List.cons_append, List.nil_append, List.length_cons, List.length_nil, Option.map_some, Option.bind_some, Nat.reduceAdd, Nat.zero_add, Nat.add_zero, Nat.add_sub_cancel_left, Int.toNat_natCast, reps, List.all_cons, List.all_nil, C.flat, List.append_eq, Bool.not_true, Bool.and_true, Bool.or_false, Bool.or_self, Bool.not_false, List.append_nil, Bool.and_self, ↓tpG_rk, ↓cnG_rk]) <;> rfl) : RetG σ H h' v K := ret_mk3 hN h hv hk
theorem cH41bN1 {P : Program} {F : Nat} {args : List T} {H : List Fam} {K : T → List Fam → Prop} {σ : List Sg} {nl : List Fam} {args0 : List T} {h0 : List Fam} {Q : T → List Fam → Prop} {H2 H1 : List Fam} {N n : Nat} (hc : Ctr P F args0 h0 Q) (hk : ∀ v h', Q v h' → capsP h' → RetG σ H2 h' v K) (hap : apart σ = true := by rfl) (hnl : nl.all nilB = true := by rfl) (h1 : H ++ nl = H1 := by first | exact List.append_nil _ | ((try simp only [List.cons_append, List.nil_append]) <;> rfl)) (hN : H1.length = N := by (try simp only [↓List.length_cons, ↓List.length_nil, Nat.reduceAdd]) <;> rfl) (hn : H.length = n := by (try simp only [↓List.length_cons, ↓List.length_nil, Nat.reduceAdd]) <;> rfl) (hH : givesF σ N H1 σ h0 = some H2 := by (try simp (maxSteps := 1000000) only [givesF, setF, updF, Fam.zeroth, Fam.rk, Ck.rk, C.rk, E.rk, T.rk, key, List.map_cons, List.map_nil, List.cons_append, List.nil_append, List.length_cons, List.length_nil, Option.map_some, Option.bind_some, Nat.reduceAdd, Nat.zero_add, Nat.add_zero, Nat.add_sub_cancel_left, Int.toNat_natCast, reps, List.all_cons, List.all_nil, C.flat, List.append_eq, Bool.not_true, Bool.and_true, Bool.or_false, Bool.or_self, Bool.not_false, List.append_nil, Bool.and_self, ↓tpG_rk, ↓cnG_rk]) <;> rfl) (hle : leS n H1 σ N σ h0 (belsK N (h0.map (Fam.rk σ N)) (argsK n args (args0.map (T.rk σ N)) True)) := by repeat' first | refine And.intro ?_ ?_ | exact xeC | fail) : CallK P F args H K := CallK.mk3 hc hap hnl h1 hN hn hH hle hk
set_option maxRecDepth 10000 in
set_option maxHeartbeats 16000000 in
theorem cchunk (b : Bg) (X : List Ep) (c k : Nat) (hb : BOk b) (hX : es X = b.L) (hk : k < X.length) :
    Ctr Try.prog 55 [.c (.p 0 0 0), .c (.i .i64 (k : Nat))] (bagH b X c)
      fun v h => ∃ c', v = .t [.c (.sl 4 0 3 0 (chL b k).length c'), .c (.i .i64 (chE b k : Nat))] ∧ h = bagH b X c ++ [.one (rcR true (chL b k) c')] := by
  have hLl : b.L.length = X.length := by rw [← hX]; exact List.length_map _
  have hbk := hb.at (k := k) (by omega)
  have hgk : ∀ i, b.L.getD i default = (X.getD i default).e := fun i => by rw [← hX, getEs]
  rw [hgk] at hbk
  have hn := hb.n
  have hlen := hb.len
  have hz : (mkS b.s).size = b.s.length := rfl
  have e2 : 0 + ((k : Nat) : Int).toNat = k := by omega
  have e3 : 0 + (((k : Nat) : Int) + 1).toNat = k + 1 := by omega
  have hend : endE b k = if k + 1 < X.length then (X.getD (k + 1) default).e.off else b.ix := by unfold endE; rw [hLl, hgk]
  have hoff : (X.getD k default).e.off ≤ b.s.length := by omega
  refine Ctr.mk' tbv mixed Try.func55 rfl rfl rfl (fun _ _ => by kernel_rfl) (by kernel_rfl) (by rfl) (by rfl) (by (repeat' first | refine And.intro ?_ ?_ | exact xeC | fail) <;> exact xmC2) ?_
  generalize hxx : chX b k = x
  obtain ⟨xs, xe⟩ := x
  generalize hR : recL (mkS xs) = R
  obtain ⟨hE1, hL1⟩ := chE_eq hxx hR
  rw [hgk] at hE1
  have hxx2 : exaL ((b.s.take (endE b k)).drop (X.getD k default).e.off) = (xs, xe) := by rw [← hgk]; exact hxx
  have hxl := exaL_len ((b.s.take (endE b k)).drop (X.getD k default).e.off)
  rw [hxx2, List.length_drop, List.length_take] at hxl
  simp only at hxl
  have hof2 : k + 1 < X.length → (X.getD (0 + ((k : Nat) : Int).toNat) default).e.off ≤ (X.getD (0 + (((k : Nat) : Int) + 1).toNat) default).e.off ∧ (X.getD (0 + (((k : Nat) : Int) + 1).toNat) default).e.off ≤ b.s.length := fun h => by
    rw [e2, e3]; rw [if_pos h] at hend; omega
  have hof3 : ¬ k + 1 < X.length → (X.getD (0 + ((k : Nat) : Int).toNat) default).e.off ≤ b.ix ∧ b.ix ≤ b.s.length := fun h => by
    rw [e2]; rw [if_neg h] at hend; omega
  have hext : ∀ a d, (mkS b.s).extract a d = mkS ((b.s.take d).drop a) := fun a d => mkS_ext _ _ _
  have hXl := ixG_at (ck := tpC) hk
  have g1 : ixG tpC X k = stR true ((X.getD k default).e.T.map Prod.fst) (X.getD k default).c1 := ixG_at hk
  have g2 : ixG cnC X k = ntR true ((X.getD k default).e.T.map Prod.snd) (X.getD k default).c2 := ixG_at hk
  have hB : ((b.s.take (endE b k)).drop (X.getD k default).e.off).length ≤ 100000000 := by rw [List.length_drop, List.length_take]; omega
  have hTk := hbk.2.2.2.1
  have hTs := okTs_srt (by have := hbk.1.2.2; rw [hgk] at this; exact this)
  have hTc := hbk.2.2.2.2
  repeat' (first | (fail_if_success (with_reducible refine xstp ?_)); first | ((with_reducible refine And.intro (fun (hb : _ = true) => ?_) (fun (hb : _ = false) => ?_)) <;> replace hb := xnC hb <;> (try first | exact xfC | exact bff hb (by assumption) | exact bff (by assumption) hb)) | (with_reducible refine Both.mk ?_ ?_) | ((with_reducible refine And.intro ?_ ?_); focus exact xoC) | ((with_reducible refine Or.inl ⟨?_, ?_, ?_⟩); (focus rfl); focus exact xaC) | ((with_reducible refine xwB ?_ ?_); focus exact xaC) | ((with_reducible refine xwC ?_ ?_); focus exact xaC) | ((with_reducible refine xwD ?_ ?_); focus exact xaC) | ((with_reducible refine xwE ?_ ?_); focus exact xaC) | (with_reducible intro hc; (try simp only [capsP, and_true] at hc); (try exact xfC)) | ((fail_if_success (with_reducible first | refine xgon ?_ | intro _)); (conv => whnf); (fail_if_success (fail_if_success (with_reducible first | refine xstp ?_ | refine Both.mk ?_ ?_ | refine xgon ?_ | intro _)))))
  all_goals (
    first
      | (rw [e2, e3, Int.toNat_natCast, Int.toNat_natCast, hext, ← (show endE b k = (X.getD (k + 1) default).e.off by rw [hend, if_pos (by omega)])]; done)
      | (rw [e2, Int.toNat_natCast, Int.toNat_natCast, hext, ← (show endE b k = b.ix by rw [hend, if_neg (by omega)])]; done)
      | rw [e2, e3, Int.toNat_natCast, Int.toNat_natCast, hext, ← (show endE b k = (X.getD (k + 1) default).e.off by rw [hend, if_pos (by omega)])]
      | rw [e2, Int.toNat_natCast, Int.toNat_natCast, hext, ← (show endE b k = b.ix by rw [hend, if_neg (by omega)])]
    refine cH41bN1 (σ := []) (nl := []) (cexa ((b.s.take (endE b k)).drop (X.getD k default).e.off) hB) ?_ (hle := by (repeat' first | refine And.intro ?_ ?_ | exact xeC | fail) <;> exact xmC2)
    rintro v h' ⟨rfl, rfl⟩ hcaps
    rw [hxx2]
    refine rH41bN0 ?_
    repeat' (first | (fail_if_success (with_reducible refine xstp ?_)); first | ((with_reducible refine And.intro (fun (hb : _ = true) => ?_) (fun (hb : _ = false) => ?_)) <;> replace hb := xnC hb <;> (try first | exact xfC | exact bff hb (by assumption) | exact bff (by assumption) hb)) | (with_reducible refine Both.mk ?_ ?_) | ((with_reducible refine And.intro ?_ ?_); focus exact xoC) | ((with_reducible refine Or.inl ⟨?_, ?_, ?_⟩); (focus rfl); focus exact xaC) | ((with_reducible refine xwB ?_ ?_); focus exact xaC) | ((with_reducible refine xwC ?_ ?_); focus exact xaC) | ((with_reducible refine xwD ?_ ?_); focus exact xaC) | ((with_reducible refine xwE ?_ ?_); focus exact xaC) | (with_reducible intro hc; (try simp only [capsP, and_true] at hc); (try exact xfC)) | ((fail_if_success (with_reducible first | refine xgon ?_ | intro _)); (conv => whnf); (fail_if_success (fail_if_success (with_reducible first | refine xstp ?_ | refine Both.mk ?_ ?_ | refine xgon ?_ | intro _)))))
    · rw [if_pos (by omega)] at hE1
      have hL : chL b k = [] := by rw [hL1, if_neg (by omega)]
      rw [hL, hE1]
      refine FinK.mk ⟨[0, 1, 2, 3, 99], _, _, ⟨0, rfl, rfl⟩, ?_⟩
      (repeat' first | refine And.intro ?_ ?_ | exact xeC | fail)
      all_goals first
        | exact xmC2
        | skip
    rw [if_neg (by omega)] at hE1
    refine cH41bN1 (σ := []) (nl := []) (crecs (mkS xs) (by show xs.length ≤ _; omega)) ?_ (hle := by (repeat' first | refine And.intro ?_ ?_ | exact xeC | fail) <;> exact xmC2)
    rintro v h' ⟨c3, rfl, rfl⟩ hcaps
    rw [hR]
    refine rH41bN0 ?_
    have hRl : R.length ≤ 100000000 := by rw [← hR]; have := recL_len (mkS xs); have : (mkS xs).size = xs.length := rfl; omega
    have e4 : 0 < R.length → 0 + ((R.length : Int) - 1).toNat = R.length - 1 := fun h => by omega
    repeat' (first | (fail_if_success (with_reducible refine xstp ?_)); first | ((with_reducible refine And.intro (fun (hb : _ = true) => ?_) (fun (hb : _ = false) => ?_)) <;> replace hb := xnC hb <;> (try first | exact xfC | exact bff hb (by assumption) | exact bff (by assumption) hb)) | (with_reducible refine Both.mk ?_ ?_) | ((with_reducible refine And.intro ?_ ?_); focus exact xoC) | ((with_reducible refine Or.inl ⟨?_, ?_, ?_⟩); (focus rfl); focus exact xaC) | ((with_reducible refine xwB ?_ ?_); focus exact xaC) | ((with_reducible refine xwC ?_ ?_); focus exact xaC) | ((with_reducible refine xwD ?_ ?_); focus exact xaC) | ((with_reducible refine xwE ?_ ?_); focus exact xaC) | (with_reducible intro hc; (try simp only [capsP, and_true] at hc); (try exact xfC)) | ((fail_if_success (with_reducible first | refine xgon ?_ | intro _)); (conv => whnf); (fail_if_success (fail_if_success (with_reducible first | refine xstp ?_ | refine Both.mk ?_ ?_ | refine xgon ?_ | intro _)))))
    · skip
      have hE : chE b k = 2 := by rw [hE1, if_neg (fun q => hb q.1)]
      have hL : chL b k = [] := by rw [hL1, if_neg (by rw [hE]; decide)]
      rw [hE, hL]
      refine FinK.mk ⟨[0, 1, 2, 3, 99], _, _, ⟨0, rfl, rfl⟩, ?_⟩
      (repeat' first | refine And.intro ?_ ?_ | exact xeC | fail)
      all_goals first
        | exact xmC2
        | skip
    · skip
      have hE : chE b k = 2 := by rw [hE1, if_neg (fun q => hb q.2.1)]
      have hL : chL b k = [] := by rw [hL1, if_neg (by rw [hE]; decide)]
      rw [hE, hL]
      refine FinK.mk ⟨[0, 1, 2, 3, 99], _, _, ⟨0, rfl, rfl⟩, ?_⟩
      (repeat' first | refine And.intro ?_ ?_ | exact xeC | fail)
      all_goals first
        | exact xmC2
        | skip
    · skip
      have hE : chE b k = 2 := by rw [hE1, if_neg (fun q => hb (by rw [show ((R.length : Int) - 1).toNat = R.length - 1 by omega]; exact q.2.2.1))]
      have hL : chL b k = [] := by rw [hL1, if_neg (by rw [hE]; decide)]
      rw [hE, hL]
      refine FinK.mk ⟨[0, 1, 2, 3, 99], _, _, ⟨0, rfl, rfl⟩, ?_⟩
      (repeat' first | refine And.intro ?_ ?_ | exact xeC | fail)
      all_goals first
        | exact xmC2
        | skip
    have hel : (R.getD (R.length - 1) default).at_ = (X.getD k default).e.la := by rw [show ((R.length : Int) - 1).toNat = R.length - 1 by omega] at hb; exact hb
    rename_i hfi
    have hE2 : chE b k = if tal R = (X.getD k default).e.T then 0 else 2 := by
      rw [hE1]
      by_cases hq : tal R = (X.getD k default).e.T
      · rw [if_pos ⟨by assumption, hfi, hel, hq⟩, if_pos hq]
      · rw [if_neg (fun q => hq q.2.2.2), if_neg hq]
    clear hE1
    refine LoopK.mk' {j : Nat // j ≤ (X.getD k default).e.T.length}
      (fun ⟨j, _⟩ => ⟨[(6, .c (.p 4 0 0)), (10, .c (.sl 5 0 3 0 R.length c3)), (12, .c (.mp 6 0)), (92, .c (.sl 2 k 1 0 (X.getD k default).e.T.length (X.getD k default).c1)), (93, .c (.i .i64 ((X.getD k default).e.T.length : Nat))), (94, .c (.i .i64 (j : Nat)))],
        [.one (bgC b 1 X.length c), .one (epR 2 3 X c), .many (tpG X), .many (cnG X), .one (.cells true (encEp 2 3 X k)), .one (rcR true R c3), .one (mpR j (mpU (X.getD k default).e.T j))]⟩) (fun j => (X.getD k default).e.T.length - j.1)
      ⟨⟨0, Nat.zero_le _⟩, [0, 1, 2, 3, 4, 5, 6], ?_⟩ ?_
    · (repeat' first | refine And.intro ?_ ?_ | exact xeC | fail)
      all_goals first
        | exact xmC2
        | (intro i hi; exact absurd hi (Nat.not_lt_zero i))
        | skip
    rintro ⟨j, hj⟩
    have hm1 : ((X.getD k default).e.T.map Prod.fst).length = (X.getD k default).e.T.length := List.length_map _
    have hm2 : ((X.getD k default).e.T.map Prod.snd).length = (X.getD k default).e.T.length := List.length_map _
    have e5 : 0 + ((j : Nat) : Int).toNat = j := by omega
    have hml := mpU_len (X.getD k default).e.T j
    have hmx : ∀ i, i < j → (mpU (X.getD k default).e.T j).getD i default = (i, ((X.getD k default).e.T.getD i default).1, ((X.getD k default).e.T.getD i default).2) := fun i hi => mpU_at hi
    rcases Nat.lt_or_ge j (X.getD k default).e.T.length with hjl | hjg
    · skip
      repeat' (first | (fail_if_success (with_reducible refine xstp ?_)); first | ((with_reducible refine And.intro (fun (hb : _ = true) => ?_) (fun (hb : _ = false) => ?_)) <;> replace hb := xnC hb <;> (try first | exact xfC | exact bff hb (by assumption) | exact bff (by assumption) hb)) | (with_reducible refine Both.mk ?_ ?_) | ((with_reducible refine And.intro ?_ ?_); focus exact xoC) | ((with_reducible refine Or.inl ⟨?_, ?_, ?_⟩); (focus rfl); focus exact xaC) | ((with_reducible refine xwB ?_ ?_); focus exact xaC) | ((with_reducible refine xwC ?_ ?_); focus exact xaC) | ((with_reducible refine xwD ?_ ?_); focus exact xaC) | ((with_reducible refine xwE ?_ ?_); focus exact xaC) | (with_reducible intro hc; (try simp only [capsP, and_true] at hc); (try exact xfC)) | ((fail_if_success (with_reducible first | refine xgon ?_ | intro _)); (conv => whnf); (fail_if_success (fail_if_success (with_reducible first | refine xstp ?_ | refine Both.mk ?_ ?_ | refine xgon ?_ | intro _)))))
      all_goals try (first | refine ManyK.mk ⟨_, g1, ?_⟩ | refine ManyK.mk ⟨_, g2, ?_⟩)
      all_goals (
        repeat' (first | (fail_if_success (with_reducible refine xstp ?_)); first | ((with_reducible refine And.intro (fun (hb : _ = true) => ?_) (fun (hb : _ = false) => ?_)) <;> replace hb := xnC hb <;> (try first | exact xfC | exact bff hb (by assumption) | exact bff (by assumption) hb)) | (with_reducible refine Both.mk ?_ ?_) | ((with_reducible refine And.intro ?_ ?_); focus exact xoC) | ((with_reducible refine Or.inl ⟨?_, ?_, ?_⟩); (focus rfl); focus exact xaC) | ((with_reducible refine xwB ?_ ?_); focus exact xaC) | ((with_reducible refine xwC ?_ ?_); focus exact xaC) | ((with_reducible refine xwD ?_ ?_); focus exact xaC) | ((with_reducible refine xwE ?_ ?_); focus exact xaC) | (with_reducible intro hc; (try simp only [capsP, and_true] at hc); (try exact xfC)) | ((fail_if_success (with_reducible first | refine xgon ?_ | intro _)); (conv => whnf); (fail_if_success (fail_if_success (with_reducible first | refine xstp ?_ | refine Both.mk ?_ ?_ | refine xgon ?_ | intro _)))))
        )
      all_goals try (first | refine ManyK.mk ⟨_, g1, ?_⟩ | refine ManyK.mk ⟨_, g2, ?_⟩)
      all_goals (
        repeat' (first | (fail_if_success (with_reducible refine xstp ?_)); first | ((with_reducible refine And.intro (fun (hb : _ = true) => ?_) (fun (hb : _ = false) => ?_)) <;> replace hb := xnC hb <;> (try first | exact xfC | exact bff hb (by assumption) | exact bff (by assumption) hb)) | (with_reducible refine Both.mk ?_ ?_) | ((with_reducible refine And.intro ?_ ?_); focus exact xoC) | ((with_reducible refine Or.inl ⟨?_, ?_, ?_⟩); (focus rfl); focus exact xaC) | ((with_reducible refine xwB ?_ ?_); focus exact xaC) | ((with_reducible refine xwC ?_ ?_); focus exact xaC) | ((with_reducible refine xwD ?_ ?_); focus exact xaC) | ((with_reducible refine xwE ?_ ?_); focus exact xaC) | (with_reducible intro hc; (try simp only [capsP, and_true] at hc); (try exact xfC)) | ((fail_if_success (with_reducible first | refine xgon ?_ | intro _)); (conv => whnf); (fail_if_success (fail_if_success (with_reducible first | refine xstp ?_ | refine Both.mk ?_ ?_ | refine xgon ?_ | intro _)))))
        )
      all_goals try (first | refine ManyK.mk ⟨_, g1, ?_⟩ | refine ManyK.mk ⟨_, g2, ?_⟩)
      all_goals (
        repeat' (first | (fail_if_success (with_reducible refine xstp ?_)); first | ((with_reducible refine And.intro (fun (hb : _ = true) => ?_) (fun (hb : _ = false) => ?_)) <;> replace hb := xnC hb <;> (try first | exact xfC | exact bff hb (by assumption) | exact bff (by assumption) hb)) | (with_reducible refine Both.mk ?_ ?_) | ((with_reducible refine And.intro ?_ ?_); focus exact xoC) | ((with_reducible refine Or.inl ⟨?_, ?_, ?_⟩); (focus rfl); focus exact xaC) | ((with_reducible refine xwB ?_ ?_); focus exact xaC) | ((with_reducible refine xwC ?_ ?_); focus exact xaC) | ((with_reducible refine xwD ?_ ?_); focus exact xaC) | ((with_reducible refine xwE ?_ ?_); focus exact xaC) | (with_reducible intro hc; (try simp only [capsP, and_true] at hc); (try exact xfC)) | ((fail_if_success (with_reducible first | refine xgon ?_ | intro _)); (conv => whnf); (fail_if_success (fail_if_success (with_reducible first | refine xstp ?_ | refine Both.mk ?_ ?_ | refine xgon ?_ | intro _)))))
        )
      all_goals try (first | refine ManyK.mk ⟨_, g1, ?_⟩ | refine ManyK.mk ⟨_, g2, ?_⟩)
      all_goals (
        repeat' (first | (fail_if_success (with_reducible refine xstp ?_)); first | ((with_reducible refine And.intro (fun (hb : _ = true) => ?_) (fun (hb : _ = false) => ?_)) <;> replace hb := xnC hb <;> (try first | exact xfC | exact bff hb (by assumption) | exact bff (by assumption) hb)) | (with_reducible refine Both.mk ?_ ?_) | ((with_reducible refine And.intro ?_ ?_); focus exact xoC) | ((with_reducible refine Or.inl ⟨?_, ?_, ?_⟩); (focus rfl); focus exact xaC) | ((with_reducible refine xwB ?_ ?_); focus exact xaC) | ((with_reducible refine xwC ?_ ?_); focus exact xaC) | ((with_reducible refine xwD ?_ ?_); focus exact xaC) | ((with_reducible refine xwE ?_ ?_); focus exact xaC) | (with_reducible intro hc; (try simp only [capsP, and_true] at hc); (try exact xfC)) | ((fail_if_success (with_reducible first | refine xgon ?_ | intro _)); (conv => whnf); (fail_if_success (fail_if_success (with_reducible first | refine xstp ?_ | refine Both.mk ?_ ?_ | refine xgon ?_ | intro _)))))
        )
      all_goals rw [e5, getFst] at hc
      · rename_i a ha
        exfalso
        rw [hml] at ha
        rw [hmx a ha] at hc
        have h1 := mpU_ne hTs.1 (k := j + 1) hjl a j ha (by rw [mpU_len]; omega)
        rw [mpU_at (by omega), mpU_at (by omega)] at h1
        exact h1 (mkS_inj.1 (Key.s.inj hc))
      · rw [e5, getFst, getSnd]
        refine ⟨⟨j + 1, hjl⟩, [0, 1, 2, 3, 4, 5, 6], by simp only; omega, ?_⟩
        simp only [mpU_succ]
        (repeat' first | refine And.intro ?_ ?_ | exact xeC | fail)
        all_goals first
          | exact xmC2
          | exact mpR_new
          | (simp; done)
          | skip
    · obtain rfl : j = (X.getD k default).e.T.length := by omega
      repeat' (first | (fail_if_success (with_reducible refine xstp ?_)); first | ((with_reducible refine And.intro (fun (hb : _ = true) => ?_) (fun (hb : _ = false) => ?_)) <;> replace hb := xnC hb <;> (try first | exact xfC | exact bff hb (by assumption) | exact bff (by assumption) hb)) | (with_reducible refine Both.mk ?_ ?_) | ((with_reducible refine And.intro ?_ ?_); focus exact xoC) | ((with_reducible refine Or.inl ⟨?_, ?_, ?_⟩); (focus rfl); focus exact xaC) | ((with_reducible refine xwB ?_ ?_); focus exact xaC) | ((with_reducible refine xwC ?_ ?_); focus exact xaC) | ((with_reducible refine xwD ?_ ?_); focus exact xaC) | ((with_reducible refine xwE ?_ ?_); focus exact xaC) | (with_reducible intro hc; (try simp only [capsP, and_true] at hc); (try exact xfC)) | ((fail_if_success (with_reducible first | refine xgon ?_ | intro _)); (conv => whnf); (fail_if_success (fail_if_success (with_reducible first | refine xstp ?_ | refine Both.mk ?_ ?_ | refine xgon ?_ | intro _)))))
      have hD0 := DOk.init hTs.1 hTs.2
      refine LoopK.mk' {p : Nat × Nat × List Me // p.1 ≤ R.length ∧ DOk p.2.2 (X.getD k default).e.T (R.take p.1) ∧ ∀ a, a < p.2.2.length → (p.2.2.getD a default).2.2 ≤ 1099511627776}
        (fun ⟨(i, ck, M), _⟩ => ⟨[(10, .c (.sl 4 0 3 0 R.length c3)), (12, .c (.mp 5 0)), (107, .c (.sl 4 0 3 0 R.length c3)), (108, .c (.i .i64 (R.length : Nat))), (109, .c (.i .i64 (i : Nat)))],
          [.one (bgC b 1 X.length c), .one (epR 2 3 X c), .many (tpG X), .many (cnG X), .one (rcR true R c3), .one (mpR ck M)]⟩) (fun p => R.length - p.1.1)
        ⟨⟨(0, (X.getD k default).e.T.length, mpU (X.getD k default).e.T (X.getD k default).e.T.length), Nat.zero_le _, hD0, fun a ha => ?_⟩, [0, 1, 2, 3, 5, 6], ?_⟩ ?_
      · have ha : a < (X.getD k default).e.T.length := by rw [← hml]; exact ha
        show ((mpU _ _).getD a default).2.2 ≤ _
        rw [hmx a ha]
        exact (hTc _ (by rw [getD_at ha]; exact List.getElem_mem _)).2
      · (repeat' first | refine And.intro ?_ ?_ | exact xeC | fail)
        all_goals first
          | exact xmC2
          | skip
      rintro ⟨⟨i, ck, M⟩, hi, hD, hMb⟩
      simp only at hi hD hMb
      have e6 : 0 + ((i : Nat) : Int).toNat = i := by omega
      rcases Nat.lt_or_ge i R.length with hil | hig
      · have hts := take_snocG R hil
        repeat' (first | (fail_if_success (with_reducible refine xstp ?_)); first | ((with_reducible refine And.intro (fun (hb : _ = true) => ?_) (fun (hb : _ = false) => ?_)) <;> replace hb := xnC hb <;> (try first | exact xfC | exact bff hb (by assumption) | exact bff (by assumption) hb)) | (with_reducible refine Both.mk ?_ ?_) | ((with_reducible refine And.intro ?_ ?_); focus exact xoC) | ((with_reducible refine Or.inl ⟨?_, ?_, ?_⟩); (focus rfl); focus exact xaC) | ((with_reducible refine xwB ?_ ?_); focus exact xaC) | ((with_reducible refine xwC ?_ ?_); focus exact xaC) | ((with_reducible refine xwD ?_ ?_); focus exact xaC) | ((with_reducible refine xwE ?_ ?_); focus exact xaC) | (with_reducible intro hc; (try simp only [capsP, and_true] at hc); (try exact xfC)) | ((fail_if_success (with_reducible first | refine xgon ?_ | intro _)); (conv => whnf); (fail_if_success (fail_if_success (with_reducible first | refine xstp ?_ | refine Both.mk ?_ ?_ | refine xgon ?_ | intro _)))))
        · rename_i a ha
          rw [e6] at hc
          have hka := mkS_inj.1 (Key.s.inj hc)
          have hc0 := hc
          clear hc
          have hva := hD.va a ha
          have hvm := hMb a ha
          have same : ∀ d, d < M.length → Key.s (mkS (M.getD d default).2.1) = Key.s (mkS (R.getD i default).tp) → d = a := fun d hd hq => by
            have hkd := mkS_inj.1 (Key.s.inj hq)
            rcases (by omega : d < a ∨ a < d ∨ d = a) with h | h | h
            · exact absurd (hkd.trans hka.symm) (hD.ne d a h ha)
            · exact absurd (hka.trans hkd.symm) (hD.ne a d h hd)
            · exact h
          repeat' (first | (fail_if_success (with_reducible refine xstp ?_)); first | ((with_reducible refine And.intro (fun (hb : _ = true) => ?_) (fun (hb : _ = false) => ?_)) <;> replace hb := xnC hb <;> (try first | exact xfC | exact bff hb (by assumption) | exact bff (by assumption) hb)) | (with_reducible refine Both.mk ?_ ?_) | ((with_reducible refine And.intro ?_ ?_); focus exact xoC) | ((with_reducible refine Or.inl ⟨?_, ?_, ?_⟩); (focus rfl); focus exact xaC) | ((with_reducible refine xwB ?_ ?_); focus exact xaC) | ((with_reducible refine xwC ?_ ?_); focus exact xaC) | ((with_reducible refine xwD ?_ ?_); focus exact xaC) | ((with_reducible refine xwE ?_ ?_); focus exact xaC) | (with_reducible intro hc; (try simp only [capsP, and_true] at hc); (try exact xfC)) | ((fail_if_success (with_reducible first | refine xgon ?_ | intro _)); (conv => whnf); (fail_if_success (fail_if_success (with_reducible first | refine xstp ?_ | refine Both.mk ?_ ?_ | refine xgon ?_ | intro _)))))
          · rename_i a2 ha2
            rw [e6] at hc
            obtain rfl := same a2 ha2 hc
            clear hc
            have hv1 : (M.getD a2 default).2.2 = 1 := by omega
            rw [e6]
            refine And.intro (fun j hj => ?_) (Both.mk ?_ ?_)
            · show (if j = a2 then _ else _ : Nat × Key × E).2.1.sk _ = true
              split <;> exact sk_s _ _
            · intro d hd hq
              obtain rfl : d = a2 := by
                by_cases h : d = a2
                · exact h
                · refine same d hd ?_
                  have hq2 : (if d = a2 then _ else _ : Nat × Key × E).2.1 = _ := hq
                  rw [if_neg h] at hq2
                  exact hq2
              repeat' (first | (fail_if_success (with_reducible refine xstp ?_)); first | ((with_reducible refine And.intro (fun (hb : _ = true) => ?_) (fun (hb : _ = false) => ?_)) <;> replace hb := xnC hb <;> (try first | exact xfC | exact bff hb (by assumption) | exact bff (by assumption) hb)) | (with_reducible refine Both.mk ?_ ?_) | ((with_reducible refine And.intro ?_ ?_); focus exact xoC) | ((with_reducible refine Or.inl ⟨?_, ?_, ?_⟩); (focus rfl); focus exact xaC) | ((with_reducible refine xwB ?_ ?_); focus exact xaC) | ((with_reducible refine xwC ?_ ?_); focus exact xaC) | ((with_reducible refine xwD ?_ ?_); focus exact xaC) | ((with_reducible refine xwE ?_ ?_); focus exact xaC) | (with_reducible intro hc; (try simp only [capsP, and_true] at hc); (try exact xfC)) | ((fail_if_success (with_reducible first | refine xgon ?_ | intro _)); (conv => whnf); (fail_if_success (fail_if_success (with_reducible first | refine xstp ?_ | refine Both.mk ?_ ?_ | refine xgon ?_ | intro _)))))
              have hD' := hD.del (r := R.getD i default) ha2 hka hv1
              rw [← hts] at hD'
              have hcl := cut_len M ha2
              refine ⟨⟨(i + 1, ck, M.take d ++ M.drop (d + 1)), hil, hD', fun x hx => ?_⟩, [0, 1, 2, 3, 4, 5], by simp only; omega, ?_⟩
              · have hx : x < (M.take d ++ M.drop (d + 1)).length := hx
                show ((M.take d ++ M.drop (d + 1)).getD x default).2.2 ≤ _
                rw [hcl] at hx
                rw [getD_cut M ha2]
                split
                · exact hMb x (by omega)
                · exact hMb (x + 1) (by omega)
              · (repeat' first | refine And.intro ?_ ?_ | exact xeC | fail)
                all_goals first
                  | exact xmC2
                  | omega
                  | exact fun j _ => mpR_cut ha2 j
                  | skip
            · intro hno
              exfalso
              refine hno a2 ha2 ?_
              show (if a2 = a2 then _ else _ : Nat × Key × E).2.1 = _
              rw [if_pos rfl]
          · rename_i a2 ha2
            rw [e6] at hc
            obtain rfl := same a2 ha2 hc
            clear hc
            have hv2 : 2 ≤ (M.getD a2 default).2.2 := by omega
            have hD' := hD.dec (r := R.getD i default) ha2 hka hv2
            rw [← hts] at hD'
            rw [e6]
            refine ⟨⟨(i + 1, ck, M.set a2 ((M.getD a2 default).1, (R.getD i default).tp, (M.getD a2 default).2.2 - 1)), hil, hD', fun x hx => ?_⟩, [0, 1, 2, 3, 4, 5], by simp only; omega, ?_⟩
            · have hx : x < (M.set a2 ((M.getD a2 default).1, (R.getD i default).tp, (M.getD a2 default).2.2 - 1)).length := hx
              show ((M.set a2 _).getD x default).2.2 ≤ _
              rw [List.length_set] at hx
              rw [getD_set _ _ _ _ ha2]
              split
              · simp only; omega
              · exact hMb x hx
            · (repeat' first | refine And.intro ?_ ?_ | exact xeC | fail)
              all_goals first
                | exact xmC2
                | exact List.length_set.symm
                | exact mpR_set ha2 (by omega)
                | skip
          · exact absurd (by rw [e6]; exact hc0) (hc a ha)
          · exact absurd (by rw [e6]; exact hc0) (hc a ha)
        · rw [e6] at hc
          have hne := hD.no hil (fun a ha q => hc a ha (by rw [q]))
          have hE : chE b k = 2 := by rw [hE2, if_neg hne]
          have hL : chL b k = [] := by rw [hL1, if_neg (by rw [hE]; decide)]
          rw [hE, hL]
          refine FinK.mk ⟨[0, 1, 2, 3, 99], _, _, ⟨0, rfl, rfl⟩, ?_⟩
          (repeat' first | refine And.intro ?_ ?_ | exact xeC | fail)
          all_goals first
            | exact xmC2
            | skip
      · obtain rfl : i = R.length := by omega
        rw [List.take_length] at hD
        have hf := hD.fin hTs.1 hTs.2
        repeat' (first | (fail_if_success (with_reducible refine xstp ?_)); first | ((with_reducible refine And.intro (fun (hb : _ = true) => ?_) (fun (hb : _ = false) => ?_)) <;> replace hb := xnC hb <;> (try first | exact xfC | exact bff hb (by assumption) | exact bff (by assumption) hb)) | (with_reducible refine Both.mk ?_ ?_) | ((with_reducible refine And.intro ?_ ?_); focus exact xoC) | ((with_reducible refine Or.inl ⟨?_, ?_, ?_⟩); (focus rfl); focus exact xaC) | ((with_reducible refine xwB ?_ ?_); focus exact xaC) | ((with_reducible refine xwC ?_ ?_); focus exact xaC) | ((with_reducible refine xwD ?_ ?_); focus exact xaC) | ((with_reducible refine xwE ?_ ?_); focus exact xaC) | (with_reducible intro hc; (try simp only [capsP, and_true] at hc); (try exact xfC)) | ((fail_if_success (with_reducible first | refine xgon ?_ | intro _)); (conv => whnf); (fail_if_success (fail_if_success (with_reducible first | refine xstp ?_ | refine Both.mk ?_ ?_ | refine xgon ?_ | intro _)))))
        · have hE : chE b k = 2 := by rw [hE2, if_neg (fun q => by have := hf.1 q; omega)]
          have hL : chL b k = [] := by rw [hL1, if_neg (by rw [hE]; decide)]
          rw [hE, hL]
          refine FinK.mk ⟨[0, 1, 2, 3, 99], _, _, ⟨0, rfl, rfl⟩, ?_⟩
          (repeat' first | refine And.intro ?_ ?_ | exact xeC | fail)
          all_goals first
            | exact xmC2
            | skip
        · have hE : chE b k = 0 := by rw [hE2, if_pos (hf.2 (by omega))]
          have hL : chL b k = R := by rw [hL1, if_pos hE]
          rw [hE, hL]
          refine FinK.mk ⟨[0, 1, 2, 3, 4], _, _, ⟨c3, rfl, rfl⟩, ?_⟩
          (repeat' first | refine And.intro ?_ ?_ | exact xeC | fail)
          all_goals first
            | exact xmC2
            | skip)
end Go.Proofs.Ytkjkbpnhocjenaa


namespace Go.Proofs.Ytkjkbpnhocjenaa
open Go.X
set_option linter.unusedSimpArgs false
set_option linter.unusedVariables false
open P4
open P5
theorem tlN_adv {s : ByteArray} : ∀ (k a e : Nat), a ≤ s.size → (tlN s k a e).1.length + a ≤ (tlN s k a e).2.1 + (if (tlN s k a e).2.2 = 0 then 0 else 1) ∧ ∀ t ∈ (tlN s k a e).1, t.1.length ≤ 40 ∧ t.2 ≤ 1099511627776
  | 0, a, e, h => by simp [tlN]
  | k + 1, a, e, h => by
    unfold tlN
    split
    · rename_i he
      subst he
      have h1 := rdT_mono (e := 0) (m := 40) h
      have h2 := rdAt_mono (e := (rdT s a 0 40).2.2) h1.2
      have h3 := tlN_adv k _ (rdAt s (rdT s a 0 40).2.1 (rdT s a 0 40).2.2).2.2 h2.2
      refine ⟨?_, ?_⟩
      · simp only [List.length_cons]
        by_cases hp : (rdAt s (rdT s a 0 40).2.1 (rdT s a 0 40).2.2).2.2 = 0
        · have := rdS_pos (m := 1099511627776) hp
          have e1 : (rdS s (rdT s a 0 40).2.1 (rdT s a 0 40).2.2 1099511627776).2.1 = (rdAt s (rdT s a 0 40).2.1 (rdT s a 0 40).2.2).2.1 := rfl
          have := h3.1
          omega
        · rw [tlN_stop (.inr hp)]
          simp only [List.length_nil]
          rw [if_neg hp]
          omega
      · intro t ht
        rcases List.mem_cons.1 ht with rfl | ht
        · exact ⟨rdT_len s a 0 40, by have := rdAt_le s (rdT s a 0 40).2.1 (rdT s a 0 40).2.2; simp only; omega⟩
        · exact h3.2 t ht
    · simp
theorem enN_flat {s : ByteArray} : ∀ (k a e : Nat), a ≤ s.size → ((enN s k a e).1.flatMap En.T).length ≤ 2 * (s.size - a) + 2 ∧ ∀ y ∈ (enN s k a e).1, ∀ t ∈ y.T, t.1.length ≤ 40 ∧ t.2 ≤ 1099511627776
  | 0, a, e, h => by simp [enN]
  | k + 1, a, e, h => by
    unfold enN
    split
    · rename_i he
      subst he
      have hm := sm_mono (e := 0) h
      have ht := tlN_mono (s := s) (sm4 s a 0).1 (sm4 s a 0).2.1 (sm4 s a 0).2.2 hm.2.2.2.1
      have hl := tlN_adv (s := s) (sm4 s a 0).1 (sm4 s a 0).2.1 (sm4 s a 0).2.2 hm.2.2.2.1
      have e1 : enT s a 0 = tlN s (sm4 s a 0).1 (sm4 s a 0).2.1 (sm4 s a 0).2.2 := rfl
      have e2 : (rdEn s a 0).T = (tlN s (sm4 s a 0).1 (sm4 s a 0).2.1 (sm4 s a 0).2.2).1 := rfl
      have h3 := enN_flat k (enT s a 0).2.1 (enT s a 0).2.2 (by rw [e1]; exact ht.2.1)
      refine ⟨?_, ?_⟩
      · simp only [List.flatMap_cons, List.length_append]
        rw [e2]
        by_cases hp : (enT s a 0).2.2 = 0
        · have := sm_pos (ht.2.2 (by rw [← e1]; exact hp))
          rw [e1] at h3 hp ⊢
          have h4 := hl.1
          rw [if_pos hp] at h4
          have := h3.1
          omega
        · rw [enN_stop (.inr hp)]
          rw [e1] at hp
          have h4 := hl.1
          rw [if_neg hp] at h4
          simp only [List.flatMap_nil, List.length_nil]
          omega
      · intro y hy
        rcases List.mem_cons.1 hy with rfl | hy
        · rw [e2]; exact hl.2
        · exact h3.2 y hy
    · simp
theorem ixL_flat (s : ByteArray) : ((ixL s).1.flatMap En.T).length ≤ 2 * s.size + 2 ∧ ∀ y ∈ (ixL s).1, ∀ t ∈ y.T, t.1.length ≤ 40 ∧ t.2 ≤ 1099511627776 := by
  unfold ixL
  split
  · have h1 := rdU_le (s := s) (a := 0) (e := 0) (Nat.zero_le _)
    have h2 := rdAt_mono (e := (rdU s 0 0).2.2) h1.1
    have := enN_flat (s := s) (rdAt s (rdU s 0 0).2.1 (rdU s 0 0).2.2).1 _ (rdAt s (rdU s 0 0).2.1 (rdU s 0 0).2.2).2.2 h2.2
    exact ⟨by simp only; omega, this.2⟩
  · simp
theorem bgE_ok {l : List UInt8} (h : bgE l = 0) : 18 ≤ l.length ∧ l.take 5 = magic ∧ l.drop (l.length - 5) = magic ∧ 5 ≤ bgA l ∧ bgA l ≤ l.length - 13 ∧ (bgX l).2 = 0 ∧ (ixL (mkS (bgX l).1)).2 = true ∧ ordE (ixL (mkS (bgX l).1)).1 (bgA l) := by
  unfold bgE at h
  split at h
  · cases h
  · split at h
    · cases h
    · rename_i h1 h2
      have h2 := Decidable.of_not_not h2
      split at h
      · rename_i h3
        exact absurd h h3
      · rename_i h3
        split at h
        · rename_i h4
          exact ⟨by omega, h2.1, h2.2.1, h2.2.2.1, h2.2.2.2, Decidable.of_not_not h3, h4⟩
        · cases h
theorem BOk.of {l : List UInt8} (h : bgE l = 0) (hl : l.length ≤ 400000) : BOk (bgO l) := by
  obtain ⟨h1, h2, h3, h4, h5, h6, h7, h8⟩ := bgE_ok h
  have hO := bgO_L l
  have hs : (bgO l).s = l := by simp only [bgO]
  have hi : (bgO l).ix = bgA l := by simp only [bgO]
  have hx := ixL_len (mkS (bgX l).1)
  have hf := ixL_flat (mkS (bgX l).1)
  have hbl := exaL_len ((l.take (l.length - 13)).drop (bgA l))
  rw [List.length_drop, List.length_take] at hbl
  have hbx : (bgX l).1.length ≤ 400000 := by unfold bgX; omega
  have hz : (mkS (bgX l).1).size = (bgX l).1.length := mkS_size _
  rw [hz] at hx hf
  refine ⟨by rw [hs]; omega, by rw [hs, hi]; omega, by rw [hO, hi]; exact h8, by rw [hO]; omega, ?_, fun y hy => ?_⟩
  · unfold flatT
    rw [hO]
    omega
  · rw [hO] at hy
    exact ⟨by have := (hx.2 y hy).1; omega, hf.2 y hy⟩
theorem flatT_take (L : List En) {i : Nat} (h : i < L.length) : (L.take (i + 1)).flatMap En.T = (L.take i).flatMap En.T ++ (L.getD i default).T := by
  rw [take_snocG L h, List.flatMap_append]; simp
theorem flat_le (L : List En) (i : Nat) : ((L.take i).flatMap En.T).length ≤ (L.flatMap En.T).length := by
  conv => rhs; rw [← List.take_append_drop i L]
  rw [List.flatMap_append, List.length_append]
  omega
theorem rH41bO0 {σ : List Sg} {H h' : List Fam} {v : T} {K : T → List Fam → Prop} {H' : List Fam} {v' : T} {N : Nat} (hk : K v' H') (hN : H.length = N := by (try simp only [↓List.length_cons, ↓List.length_nil, Nat.reduceAdd]) <;> rfl) (h : givesF σ N H σ h' = some H' := by (try simp (maxSteps := 1000000) only [givesF, setF, updF, Fam.zeroth, Fam.rk, Ck.rk, C.rk, E.rk, T.rk, key, List.map_cons, List.map_nil, List.cons_append, List.nil_append, List.length_cons, List.length_nil, Option.map_some, Option.bind_some, Nat.reduceAdd, Nat.zero_add, Nat.add_zero, Nat.add_sub_cancel_left, Int.toNat_natCast, reps, List.all_cons, List.all_nil, C.flat, List.append_eq, Bool.not_true, Bool.and_true, Bool.or_false, Bool.or_self, Bool.not_false, List.append_nil, Bool.and_self, ↓tpG_rk, ↓cnG_rk, encEp_rk2]) <;> rfl) (hv : v.rk σ N = v' := by (try simp only [givesF, setF, updF, Fam.zeroth, Fam.rk, Ck.rk, C.rk, E.rk, T.rk, key, List.map_cons, List.map_nil, List.cons_append, List.nil_append, List.length_cons, List.length_nil, Option.map_some, Option.bind_some, Nat.reduceAdd, Nat.zero_add, Nat.add_zero, Nat.add_sub_cancel_left, Int.toNat_natCast, reps, List.all_cons, List.all_nil, C.flat, List.append_eq, Bool.not_true, Bool.and_true, Bool.or_false, Bool.or_self, Bool.not_false, List.append_nil, Bool.and_self, ↓tpG_rk, ↓cnG_rk, encEp_rk2]) <;> rfl) : RetG σ H h' v K := ret_mk3 hN h hv hk
theorem cH41bO1 {P : Program} {F : Nat} {args : List T} {H : List Fam} {K : T → List Fam → Prop} {σ : List Sg} {nl : List Fam} {args0 : List T} {h0 : List Fam} {Q : T → List Fam → Prop} {H2 H1 : List Fam} {N n : Nat} (hc : Ctr P F args0 h0 Q) (hk : ∀ v h', Q v h' → capsP h' → RetG σ H2 h' v K) (hap : apart σ = true := by rfl) (hnl : nl.all nilB = true := by rfl) (h1 : H ++ nl = H1 := by first | exact List.append_nil _ | ((try simp only [List.cons_append, List.nil_append]) <;> rfl)) (hN : H1.length = N := by (try simp only [↓List.length_cons, ↓List.length_nil, Nat.reduceAdd]) <;> rfl) (hn : H.length = n := by (try simp only [↓List.length_cons, ↓List.length_nil, Nat.reduceAdd]) <;> rfl) (hH : givesF σ N H1 σ h0 = some H2 := by (try simp (maxSteps := 1000000) only [givesF, setF, updF, Fam.zeroth, Fam.rk, Ck.rk, C.rk, E.rk, T.rk, key, List.map_cons, List.map_nil, List.cons_append, List.nil_append, List.length_cons, List.length_nil, Option.map_some, Option.bind_some, Nat.reduceAdd, Nat.zero_add, Nat.add_zero, Nat.add_sub_cancel_left, Int.toNat_natCast, reps, List.all_cons, List.all_nil, C.flat, List.append_eq, Bool.not_true, Bool.and_true, Bool.or_false, Bool.or_self, Bool.not_false, List.append_nil, Bool.and_self, ↓tpG_rk, ↓cnG_rk]) <;> rfl) (hle : leS n H1 σ N σ h0 (belsK N (h0.map (Fam.rk σ N)) (argsK n args (args0.map (T.rk σ N)) True)) := by repeat' first | refine And.intro ?_ ?_ | exact xeC | fail) : CallK P F args H K := CallK.mk3 hc hap hnl h1 hN hn hH hle hk
set_option maxRecDepth 10000 in
set_option maxHeartbeats 8000000 in
theorem cTopics (b : Bg) (X : List Ep) (c : Nat) (hb : BOk b) (hX : es X = b.L) :
    Ctr Try.prog 21 [.c (.p 0 0 0)] (bagH b X c)
      fun v h => ∃ c', v = .c (.sl 4 0 1 0 (topB b).length c') ∧ h = bagH b X c ++ [.one (stR true (topB b) c')] := by
  have hLl : b.L.length = X.length := by rw [← hX]; exact List.length_map _
  have hgk : ∀ i, b.L.getD i default = (X.getD i default).e := fun i => by rw [← hX, getEs]
  have hn := hb.n
  have hfl := hb.flat
  unfold flatT at hfl
  refine Ctr.mk' tbv mixed Try.func21 rfl rfl rfl (fun _ _ => by kernel_rfl) (by kernel_rfl) (by rfl) (by rfl) (by (repeat' first | refine And.intro ?_ ?_ | exact xeC | fail) <;> exact xmC2) ?_
  repeat' (first | (fail_if_success (with_reducible refine xstp ?_)); first | ((with_reducible refine And.intro (fun (hb : _ = true) => ?_) (fun (hb : _ = false) => ?_)) <;> replace hb := xnC hb <;> (try first | exact xfC | exact bff hb (by assumption) | exact bff (by assumption) hb)) | (with_reducible refine Both.mk ?_ ?_) | ((with_reducible refine And.intro ?_ ?_); focus exact xoC) | ((with_reducible refine Or.inl ⟨?_, ?_, ?_⟩); (focus rfl); focus exact xaC) | ((with_reducible refine xwB ?_ ?_); focus exact xaC) | ((with_reducible refine xwC ?_ ?_); focus exact xaC) | ((with_reducible refine xwD ?_ ?_); focus exact xaC) | ((with_reducible refine xwE ?_ ?_); focus exact xaC) | (with_reducible intro hc; (try simp only [capsP, and_true] at hc); (try exact xfC)) | ((fail_if_success (with_reducible first | refine xgon ?_ | intro _)); (conv => whnf); (fail_if_success (fail_if_success (with_reducible first | refine xstp ?_ | refine Both.mk ?_ ?_ | refine xgon ?_ | intro _)))))
  refine LoopK.mk' {p : Nat × Nat // p.1 ≤ X.length}
    (fun ⟨(i, c1), _⟩ => ⟨[(3, .c (.sl 4 0 1 0 (((b.L.take i).flatMap En.T).map Prod.fst).length c1)), (11, .c (.sl 1 0 5 0 X.length c)), (12, .c (.i .i64 (X.length : Nat))), (13, .c (.i .i64 (i : Nat)))],
      [.one (bgC b 1 X.length c), .one (epR 2 3 X c), .many (tpG X), .many (cnG X), .one (stR true (((b.L.take i).flatMap En.T).map Prod.fst) c1)]⟩) (fun p => X.length - p.1.1)
    ⟨⟨(0, 0), Nat.zero_le _⟩, [0, 1, 2, 3, 99], ?_⟩ ?_
  · (repeat' first | refine And.intro ?_ ?_ | exact xeC | fail)
    all_goals first
      | exact xmC2
      | (intro i hi; exact absurd hi (Nat.not_lt_zero i))
      | skip
  rintro ⟨⟨i, c1⟩, hi⟩
  simp only at hi
  have e2 : 0 + ((i : Nat) : Int).toNat = i := by omega
  have hfi := flat_le b.L i
  have hfl1 : (((b.L.take i).flatMap En.T).map Prod.fst).length = ((b.L.take i).flatMap En.T).length := List.length_map _
  rcases Nat.lt_or_ge i X.length with hlt | hge
  · have hts := flatT_take b.L (i := i) (by omega)
    rw [hgk] at hts
    have hfi2 := flat_le b.L (i + 1)
    rw [hts, List.length_append] at hfi2
    have g1 : ixG tpC X i = stR true ((X.getD i default).e.T.map Prod.fst) (X.getD i default).c1 := ixG_at hlt
    have hm1 : ((X.getD i default).e.T.map Prod.fst).length = (X.getD i default).e.T.length := List.length_map _
    rw [← e2] at g1
    have hfi3 : (X.getD (0 + ((i : Nat) : Int).toNat) default).e.T.length = (X.getD i default).e.T.length := by rw [e2]
    repeat' (first | (fail_if_success (with_reducible refine xstp ?_)); first | ((with_reducible refine And.intro (fun (hb : _ = true) => ?_) (fun (hb : _ = false) => ?_)) <;> replace hb := xnC hb <;> (try first | exact xfC | exact bff hb (by assumption) | exact bff (by assumption) hb)) | (with_reducible refine Both.mk ?_ ?_) | ((with_reducible refine And.intro ?_ ?_); focus exact xoC) | ((with_reducible refine Or.inl ⟨?_, ?_, ?_⟩); (focus rfl); focus exact xaC) | ((with_reducible refine xwB ?_ ?_); focus exact xaC) | ((with_reducible refine xwC ?_ ?_); focus exact xaC) | ((with_reducible refine xwD ?_ ?_); focus exact xaC) | ((with_reducible refine xwE ?_ ?_); focus exact xaC) | (with_reducible intro hc; (try simp only [capsP, and_true] at hc); (try exact xfC)) | ((fail_if_success (with_reducible first | refine xgon ?_ | intro _)); (conv => whnf); (fail_if_success (fail_if_success (with_reducible first | refine xstp ?_ | refine Both.mk ?_ ?_ | refine xgon ?_ | intro _)))))
    repeat (
      refine ManyK.mk ⟨_, g1, ?_⟩
      repeat' (first | (fail_if_success (with_reducible refine xstp ?_)); first | ((with_reducible refine And.intro (fun (hb : _ = true) => ?_) (fun (hb : _ = false) => ?_)) <;> replace hb := xnC hb <;> (try first | exact xfC | exact bff hb (by assumption) | exact bff (by assumption) hb)) | (with_reducible refine Both.mk ?_ ?_) | ((with_reducible refine And.intro ?_ ?_); focus exact xoC) | ((with_reducible refine Or.inl ⟨?_, ?_, ?_⟩); (focus rfl); focus exact xaC) | ((with_reducible refine xwB ?_ ?_); focus exact xaC) | ((with_reducible refine xwC ?_ ?_); focus exact xaC) | ((with_reducible refine xwD ?_ ?_); focus exact xaC) | ((with_reducible refine xwE ?_ ?_); focus exact xaC) | (with_reducible intro hc; (try simp only [capsP, and_true] at hc); (try exact xfC)) | ((fail_if_success (with_reducible first | refine xgon ?_ | intro _)); (conv => whnf); (fail_if_success (fail_if_success (with_reducible first | refine xstp ?_ | refine Both.mk ?_ ?_ | refine xgon ?_ | intro _)))))
      )
    rename_i c2
    refine ⟨⟨(i + 1, c2), hlt⟩, [0, 1, 2, 3, 6], by simp only; omega, ?_⟩
    simp only [hts, List.map_append]
    rw [e2]
    (repeat' first | refine And.intro ?_ ?_ | exact xeC | fail)
    all_goals first
      | exact xmC2
      | (rw [List.length_append, hm1]; done)
      | (rw [List.length_append, hm1]; omega)
      | exact ixG_leB tpF hlt
      | exact ixG_leB1 tpF hlt
      | exact app_rowL encSt _ _ _ _ (fun j _ => by simp only [Nat.zero_add]; rfl)
      | skip
  · obtain rfl : i = X.length := by omega
    have hta : b.L.take X.length = b.L := by rw [← hLl]; exact List.take_length
    rw [hta] at hfi hfl1
    have htp := topB_of b
    have hsl := srtS_len ((b.L.flatMap En.T).map Prod.fst)
    repeat' (first | (fail_if_success (with_reducible refine xstp ?_)); first | ((with_reducible refine And.intro (fun (hb : _ = true) => ?_) (fun (hb : _ = false) => ?_)) <;> replace hb := xnC hb <;> (try first | exact xfC | exact bff hb (by assumption) | exact bff (by assumption) hb)) | (with_reducible refine Both.mk ?_ ?_) | ((with_reducible refine And.intro ?_ ?_); focus exact xoC) | ((with_reducible refine Or.inl ⟨?_, ?_, ?_⟩); (focus rfl); focus exact xaC) | ((with_reducible refine xwB ?_ ?_); focus exact xaC) | ((with_reducible refine xwC ?_ ?_); focus exact xaC) | ((with_reducible refine xwD ?_ ?_); focus exact xaC) | ((with_reducible refine xwE ?_ ?_); focus exact xaC) | (with_reducible intro hc; (try simp only [capsP, and_true] at hc); (try exact xfC)) | ((fail_if_success (with_reducible first | refine xgon ?_ | intro _)); (conv => whnf); (fail_if_success (fail_if_success (with_reducible first | refine xstp ?_ | refine Both.mk ?_ ?_ | refine xgon ?_ | intro _)))))
    rw [hta]
    refine cH41bO1 (σ := [.whole 4]) (nl := []) (cSortS ((b.L.flatMap En.T).map Prod.fst) c1 (by omega)) ?_ (hle := by (repeat' first | refine And.intro ?_ ?_ | exact xeC | fail) <;> exact xmC2)
    rintro v h' ⟨rfl, rfl⟩ hcaps
    rw [← hsl]
    refine rH41bO0 ?_
    repeat' (first | (fail_if_success (with_reducible refine xstp ?_)); first | ((with_reducible refine And.intro (fun (hb : _ = true) => ?_) (fun (hb : _ = false) => ?_)) <;> replace hb := xnC hb <;> (try first | exact xfC | exact bff hb (by assumption) | exact bff (by assumption) hb)) | (with_reducible refine Both.mk ?_ ?_) | ((with_reducible refine And.intro ?_ ?_); focus exact xoC) | ((with_reducible refine Or.inl ⟨?_, ?_, ?_⟩); (focus rfl); focus exact xaC) | ((with_reducible refine xwB ?_ ?_); focus exact xaC) | ((with_reducible refine xwC ?_ ?_); focus exact xaC) | ((with_reducible refine xwD ?_ ?_); focus exact xaC) | ((with_reducible refine xwE ?_ ?_); focus exact xaC) | (with_reducible intro hc; (try simp only [capsP, and_true] at hc); (try exact xfC)) | ((fail_if_success (with_reducible first | refine xgon ?_ | intro _)); (conv => whnf); (fail_if_success (fail_if_success (with_reducible first | refine xstp ?_ | refine Both.mk ?_ ?_ | refine xgon ?_ | intro _)))))
    refine cH41bO1 (σ := [.whole 4]) (nl := []) (cCompact (srtS ((b.L.flatMap En.T).map Prod.fst)) c1 (by omega)) ?_ (hle := by (repeat' first | refine And.intro ?_ ?_ | exact xeC | fail) <;> exact xmC2)
    rintro v h' ⟨rfl, rfl⟩ hcaps
    have htp2 : Lib.compact (srtS ((b.L.flatMap En.T).map Prod.fst)) = topB b := htp
    rw [htp2]
    refine rH41bO0 ?_
    repeat' (first | (fail_if_success (with_reducible refine xstp ?_)); first | ((with_reducible refine And.intro (fun (hb : _ = true) => ?_) (fun (hb : _ = false) => ?_)) <;> replace hb := xnC hb <;> (try first | exact xfC | exact bff hb (by assumption) | exact bff (by assumption) hb)) | (with_reducible refine Both.mk ?_ ?_) | ((with_reducible refine And.intro ?_ ?_); focus exact xoC) | ((with_reducible refine Or.inl ⟨?_, ?_, ?_⟩); (focus rfl); focus exact xaC) | ((with_reducible refine xwB ?_ ?_); focus exact xaC) | ((with_reducible refine xwC ?_ ?_); focus exact xaC) | ((with_reducible refine xwD ?_ ?_); focus exact xaC) | ((with_reducible refine xwE ?_ ?_); focus exact xaC) | (with_reducible intro hc; (try simp only [capsP, and_true] at hc); (try exact xfC)) | ((fail_if_success (with_reducible first | refine xgon ?_ | intro _)); (conv => whnf); (fail_if_success (fail_if_success (with_reducible first | refine xstp ?_ | refine Both.mk ?_ ?_ | refine xgon ?_ | intro _)))))
    have hcl := Lib.compact_length_le (srtS ((b.L.flatMap En.T).map Prod.fst))
    rw [htp2] at hcl
    refine FinK.mk ⟨[0, 1, 2, 3, 4], _, _, ⟨c1, rfl, rfl⟩, ?_⟩
    (repeat' first | refine And.intro ?_ ?_ | exact xeC | fail)
    all_goals first
      | exact xmC2
      | exact hcl
      | (intro i hi
         have hcm : cmpS (srtS ((b.L.flatMap En.T).map Prod.fst)) = topB b ++ List.replicate ((srtS ((b.L.flatMap En.T).map Prod.fst)).length - (topB b).length) [] := by unfold cmpS; rw [htp2]
         rw [hcm]
         simp only [rowOf, List.getD, List.getElem?_append_left hi])
      | skip
def spnB (b : Bg) : T := if b.L.length = 0 then .t [.c (.i .i64 0), .c (.i .i64 0), .c .ff] else .t [.c (.i .i64 ((b.L.getD 0 default).fi : Nat)), .c (.i .i64 ((b.L.getD (b.L.length - 1) default).la : Nat)), .c .tt]
set_option maxRecDepth 10000 in
theorem cSpan (b : Bg) (X : List Ep) (c : Nat) (hb : BOk b) (hX : es X = b.L) :
    Ctr Try.prog 22 [.c (.p 0 0 0)] (bagH b X c) fun v h => v = spnB b ∧ h = bagH b X c := by
  have hLl : b.L.length = X.length := by rw [← hX]; exact List.length_map _
  have hgk : ∀ i, b.L.getD i default = (X.getD i default).e := fun i => by rw [← hX, getEs]
  have hn := hb.n
  unfold spnB
  rw [hLl, hgk, hgk]
  have e1 : 0 < X.length → 0 + ((X.length : Int) - 1).toNat = X.length - 1 := fun h => by omega
  have e0 : 0 + Int.toNat 0 = 0 := rfl
  refine Ctr.mk' tbv mixed Try.func22 rfl rfl rfl (fun _ _ => by kernel_rfl) (by kernel_rfl) (by rfl) (by rfl) (by (repeat' first | refine And.intro ?_ ?_ | exact xeC | fail) <;> exact xmC2) ?_
  repeat' (first | (fail_if_success (with_reducible refine xstp ?_)); first | ((with_reducible refine And.intro (fun (hb : _ = true) => ?_) (fun (hb : _ = false) => ?_)) <;> replace hb := xnC hb <;> (try first | exact xfC | exact bff hb (by assumption) | exact bff (by assumption) hb)) | (with_reducible refine Both.mk ?_ ?_) | ((with_reducible refine And.intro ?_ ?_); focus exact xoC) | ((with_reducible refine Or.inl ⟨?_, ?_, ?_⟩); (focus rfl); focus exact xaC) | ((with_reducible refine xwB ?_ ?_); focus exact xaC) | ((with_reducible refine xwC ?_ ?_); focus exact xaC) | ((with_reducible refine xwD ?_ ?_); focus exact xaC) | ((with_reducible refine xwE ?_ ?_); focus exact xaC) | (with_reducible intro hc; (try simp only [capsP, and_true] at hc); (try exact xfC)) | ((fail_if_success (with_reducible first | refine xgon ?_ | intro _)); (conv => whnf); (fail_if_success (fail_if_success (with_reducible first | refine xstp ?_ | refine Both.mk ?_ ?_ | refine xgon ?_ | intro _)))))
  · rw [if_pos (by omega)]
    refine FinK.mk ⟨[0, 1, 2, 3], _, _, ⟨rfl, rfl⟩, ?_⟩
    (repeat' first | refine And.intro ?_ ?_ | exact xeC | fail)
    all_goals exact xmC2
  all_goals (
    rw [if_neg (by omega), e0, e1 (by omega)]
    refine FinK.mk ⟨[0, 1, 2, 3], _, _, ⟨rfl, rfl⟩, ?_⟩
    (repeat' first | refine And.intro ?_ ?_ | exact xeC | fail)
    all_goals exact xmC2)
end Go.Proofs.Ytkjkbpnhocjenaa

