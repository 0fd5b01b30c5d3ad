/- Part 7 of the texts that a walk of this program rests on: an abstract machine, its soundness, contracts of functions. No statement of the seat is proved in this file. -/
import Derived.Test.YtkjkbpnhocjenaaGreatZ6
namespace Go.Proofs.YtkjkbpnhocjenaaGreat
open Go.X
set_option linter.unusedSimpArgs false
set_option linter.unusedVariables false
open P4
open P5
theorem ReadT_fw {s : ByteArray} {a : Nat} {x r : List UInt8} {m : Int} (hn : x.length < 18446744073709551616) (hm : (x.length : Int) ≤ m) (h : rem s a = textL x ++ r) : rdT s a 0 m = (x, a + (textL x).length, 0) := by
  have h1 : rem s a = venc x.length ++ (x ++ r) := by rw [h, textL, List.append_assoc]
  have h2 : rem s (a + (venc x.length).length) = x ++ r := rem_step h1 rfl
  have h3 := congrArg List.length h2
  unfold rem at h1 h2 h3
  rw [List.length_drop, size_len, List.length_append] at h3
  rw [rdT_U, rdU, if_pos rfl, h1, vdec_enc _ _ hn, if_pos rfl, if_neg (by simp only; omega), if_neg (by simp only; omega)]
  simp only [h2, List.take_append_of_le_length (Nat.le_refl _), List.take_length, textL, List.length_append, Nat.add_assoc]
theorem isU8_nat (b : UInt8) : isU8 [.i .u8 (b.toNat : Nat)] = true := by
  rfl
theorem spo_byte (a : UInt8) (by' : Int) (h : 0 < by') (h2 : by' ≤ 255) : ∃ b : UInt8, C.i .u8 (IntKind.u8.wrap ((a.toNat : Int) + by')) = .i .u8 (b.toNat : Nat) ∧ b ≠ a := by
  have ha := a.toNat_lt
  have hw : IntKind.u8.wrap ((a.toNat : Int) + by') = ((a.toNat : Int) + by') % 256 := by
    rw [IntKind.wrap_u8]
  refine ⟨UInt8.ofNat (((a.toNat : Int) + by') % 256).toNat, ?_, fun e => ?_⟩
  · rw [hw, UInt8.toNat_ofNat']
    congr 1
    omega
  · have := congrArg UInt8.toNat e
    rw [UInt8.toNat_ofNat'] at this
    omega
theorem getD_mid {X R : List UInt8} {p : Nat} (hp : p < X.length) : (textL X ++ R).getD ((venc X.length).length + p) default = X.getD p default := by
  rw [textL, List.append_assoc]
  simp only [List.getD]
  rw [List.getElem?_append_right (Nat.le_add_right ..), Nat.add_sub_cancel_left, List.getElem?_append_left hp]
theorem sec_at {L : List (List Rc)} {i : Nat} (hi : i < L.length) : 5 + (secsB (L.take (i + 1))).length = 5 + (secsB (L.take i)).length + (secB (L.getD i default)).length ∧
    5 + (secsB (L.take (i + 1))).length ≤ 5 + (secsB L).length ∧ ((bagB L).take (5 + (secsB (L.take (i + 1))).length)).drop (5 + (secsB (L.take i)).length) = secB (L.getD i default) := by
  have h1 := secsB_take hi
  have h2 := congrArg List.length h1
  rw [List.length_append] at h2
  have h3 := congrArg List.length (secsB_tl L (i + 1))
  rw [List.length_append] at h3
  refine ⟨by omega, by omega, ?_⟩
  have e : bagB L = (magic ++ secsB (L.take i)) ++ (secB (L.getD i default) ++ (secsB (L.drop (i + 1)) ++ (textL (sealL (indB L)) ++ (le 8 (5 + (secsB L).length) ++ magic)))) := by
    have e1 : secsB L = secsB (L.take i) ++ (secB (L.getD i default) ++ secsB (L.drop (i + 1))) := by
      conv => lhs; rw [secsB_tl L (i + 1), h1]
      simp only [List.append_assoc]
    conv => lhs; rw [bagB, e1]
    simp only [List.append_assoc]
    rw [← e1]
  have hm : (magic ++ secsB (L.take i)).length = 5 + (secsB (L.take i)).length := by rw [List.length_append]; rfl
  rw [h2, ← Nat.add_assoc, ← List.take_drop, e, List.drop_left' hm]
  exact List.take_left' rfl
theorem app_list {α : Type} [Inhabited α] (enc : α → List C) (l m : List α) : ∀ i, i < l.length + m.length → appF l.length (rowOf enc l) 0 (rowOf enc m) i = rowOf enc (l ++ m) i := by
  intro i hi
  unfold appF rowOf
  simp only [List.getD]
  by_cases h : i < l.length
  · simp [h, List.getElem?_append_left h]
  · simp [h, List.getElem?_append_right (show l.length ≤ i by omega)]
def WStep (L : List (List Rc)) (k i : Nat) (x : List Rc) : Prop := (i = k → wntL L k (i + 1) = wntL L k i) ∧ (i ≠ k → wntL L k (i + 1) = wntL L k i ++ x)
structure OneF (x : List Rc) (M W : List UInt8) (cnt : Nat) : Prop where
  app : mkS magic ++ mkS (secB x) = mkS M
  xl : x.length ≤ 40
  ml : M.length ≤ 20000
  rep : repV M = .t [.c (.s (mkS W)), .c (.i .i64 (cnt : Nat)), .c (.i .i64 0)]
  wl : W.length ≤ 100000
  e : bgE W = 0
  b : BOk (bgO W)
  r : readB (bgO W) [] 0 1099511627777 = (x, 0)
structure SpoF (D : List Rc) (Z W : List UInt8) : Prop where
  dl : D.length ≤ 40
  rep : repV Z = .t [.c (.s (mkS W)), .c (.i .i64 (D.length : Nat)), .c (.i .i64 0)]
  wl : W.length ≤ 100000
  e : bgE W = 0
  b : BOk (bgO W)
  r : readB (bgO W) [] 0 1099511627777 = (D, 0)
theorem one_facts {L : List (List Rc)} (hL : LOk L) (hA40 : L.flatten.length ≤ 40) (hA60 : sumP L.flatten ≤ 6000) {i : Nat} (hlt : i < L.length) :
    ∃ (M W : List UInt8) (cnt : Nat), OneF (L.getD i default) M W cnt := by
  have hone := rp_one hL hA40 hlt
  have hLo := hL.one hlt
  have hml : (magic ++ secB (L.getD i default)).length = 5 + (secB (L.getD i default)).length := by rw [List.length_append]; rfl
  have hx40 := Nat.le_trans (LOk.sub (mem_getD hlt)).length_le hA40
  have hxsum := Nat.le_trans (sumP_sub (LOk.sub (mem_getD hlt))) hA60
  obtain ⟨hbE, hbO⟩ := bag_open hLo
  have hxf : [L.getD i default].flatten = L.getD i default := by simp
  have hbs1 := bag_short hLo (by rw [hxf]; exact hx40) (by rw [hxf]; exact hxsum)
  obtain ⟨q1, q2, _⟩ := sec_at hlt
  have hs := bag_short hL hA40 hA60
  have hbl := bagB_len L
  exact ⟨magic ++ secB (L.getD i default), bagB [L.getD i default], (rpR (magic ++ secB (L.getD i default))).n, mkS_append _ _, hx40, by show (magic ++ secB (L.getD i default)).length ≤ 20000; omega, by rw [repV_ok hone.1 rfl, hone.2], by omega, hbE, BOk.of hbE (by omega), by rw [hbO, read_all hLo, hxf]⟩
theorem spo_facts {L : List (List Rc)} (hL : LOk L) (hA40 : L.flatten.length ≤ 40) (hA60 : sumP L.flatten ≤ 6000) {k : Nat} {Z : List UInt8}
    (h : rpE Z = 0 ∧ rpR Z = ⟨L.eraseIdx k, (L.eraseIdx k).flatten.length, lstA 0 (L.eraseIdx k)⟩) :
    ∃ W : List UInt8, SpoF (L.eraseIdx k).flatten Z W := by
  have hLe := hL.era k
  have h1 := Nat.le_trans (era_sub L k).length_le hA40
  have h2 := Nat.le_trans (sumP_sub (era_sub L k)) hA60
  have hs := bag_short hLe h1 h2
  obtain ⟨hbE, hbO⟩ := bag_open hLe
  exact ⟨bagB (L.eraseIdx k), h1, repV_ok h.1 h.2, by omega, hbE, BOk.of hbE (by omega), by rw [hbO, read_all hLe]⟩
theorem textL_ge (l : List UInt8) : l.length ≤ (textL l).length := by rw [textL, List.length_append]; omega
theorem encEr_rk2 (N : Nat) (X : List Er) (i : Nat) : List.map (C.rk [] N) (encEr 2 X i) = encEr (N + 2) X i := rfl
theorem rH41zgO0 {σ : List Sg} {H h' : List Fam} {v : T} {K : T → List Fam → Prop} {H' : List Fam} {v' : T} {N : Nat} (hk : K v' H') (hN : H.length = N := by (try simp only [↓List.length_cons, ↓List.length_nil, Nat.reduceAdd]) <;> rfl) (h : givesF σ N H σ h' = some H' := by (try simp (maxSteps := 1000000) only [givesF, setF, updF, Fam.zeroth, Fam.rk, Ck.rk, C.rk, E.rk, T.rk, key, List.map_cons, List.map_nil, List.cons_append, List.nil_append, List.length_cons, List.length_nil, Option.map_some, Option.bind_some, Nat.reduceAdd, Nat.zero_add, Nat.add_zero, Nat.add_sub_cancel_left, Int.toNat_natCast, reps, List.all_cons, List.all_nil, C.flat, List.append_eq, Bool.not_true, Bool.and_true, Bool.or_false, Bool.or_self, Bool.not_false, List.append_nil, Bool.and_self, ↓tpG_rk, ↓cnG_rk, ↓trG_rk]) <;> rfl) (hv : v.rk σ N = v' := by (try simp only [givesF, setF, updF, Fam.zeroth, Fam.rk, Ck.rk, C.rk, E.rk, T.rk, key, List.map_cons, List.map_nil, List.cons_append, List.nil_append, List.length_cons, List.length_nil, Option.map_some, Option.bind_some, Nat.reduceAdd, Nat.zero_add, Nat.add_zero, Nat.add_sub_cancel_left, Int.toNat_natCast, reps, List.all_cons, List.all_nil, C.flat, List.append_eq, Bool.not_true, Bool.and_true, Bool.or_false, Bool.or_self, Bool.not_false, List.append_nil, Bool.and_self, ↓tpG_rk, ↓cnG_rk, ↓trG_rk]) <;> rfl) : RetG σ H h' v K := ret_mk3 hN h hv hk
theorem rH41zgO1 {σ : List Sg} {H h' : List Fam} {v : T} {K : T → List Fam → Prop} {H' : List Fam} {v' : T} {N : Nat} (hk : K v' H') (hN : H.length = N := by (try simp only [↓List.length_cons, ↓List.length_nil, Nat.reduceAdd]) <;> rfl) (h : givesF σ N H σ h' = some H' := by (try simp (maxSteps := 1000000) only [givesF, setF, updF, Fam.zeroth, Fam.rk, Ck.rk, C.rk, E.rk, T.rk, key, List.map_cons, List.map_nil, List.cons_append, List.nil_append, List.length_cons, List.length_nil, Option.map_some, Option.bind_some, Nat.reduceAdd, Nat.zero_add, Nat.add_zero, Nat.add_sub_cancel_left, Int.toNat_natCast, reps, List.all_cons, List.all_nil, C.flat, List.append_eq, Bool.not_true, Bool.and_true, Bool.or_false, Bool.or_self, Bool.not_false, List.append_nil, Bool.and_self, ↓tpG_rk, ↓cnG_rk, ↓trG_rk, encEr_rk2]) <;> rfl) (hv : v.rk σ N = v' := by (try simp only [givesF, setF, updF, Fam.zeroth, Fam.rk, Ck.rk, C.rk, E.rk, T.rk, key, List.map_cons, List.map_nil, List.cons_append, List.nil_append, List.length_cons, List.length_nil, Option.map_some, Option.bind_some, Nat.reduceAdd, Nat.zero_add, Nat.add_zero, Nat.add_sub_cancel_left, Int.toNat_natCast, reps, List.all_cons, List.all_nil, C.flat, List.append_eq, Bool.not_true, Bool.and_true, Bool.or_false, Bool.or_self, Bool.not_false, List.append_nil, Bool.and_self, ↓tpG_rk, ↓cnG_rk, ↓trG_rk, encEr_rk2]) <;> rfl) : RetG σ H h' v K := ret_mk3 hN h hv hk
theorem rH41zgO2 {σ : List Sg} {H h' : List Fam} {v : T} {K : T → List Fam → Prop} {H' : List Fam} {v' : T} {N : Nat} (hk : K v' H') (hN : H.length = N := by (try simp only [↓List.length_cons, ↓List.length_nil, Nat.reduceAdd]) <;> rfl) (h : givesF σ N H σ h' = some H' := by (try simp (maxSteps := 1000000) only [givesF, setF, updF, Fam.zeroth, Fam.rk, Ck.rk, C.rk, E.rk, T.rk, key, List.map_cons, List.map_nil, List.cons_append, List.nil_append, List.length_cons, List.length_nil, Option.map_some, Option.bind_some, Nat.reduceAdd, Nat.zero_add, Nat.add_zero, Nat.add_sub_cancel_left, Int.toNat_natCast, reps, List.all_cons, List.all_nil, C.flat, List.append_eq, Bool.not_true, Bool.and_true, Bool.or_false, Bool.or_self, Bool.not_false, List.append_nil, Bool.and_self, ↓tpG_rk, ↓cnG_rk, ↓trG_rk, encEp_rk0]) <;> rfl) (hv : v.rk σ N = v' := by (try simp only [givesF, setF, updF, Fam.zeroth, Fam.rk, Ck.rk, C.rk, E.rk, T.rk, key, List.map_cons, List.map_nil, List.cons_append, List.nil_append, List.length_cons, List.length_nil, Option.map_some, Option.bind_some, Nat.reduceAdd, Nat.zero_add, Nat.add_zero, Nat.add_sub_cancel_left, Int.toNat_natCast, reps, List.all_cons, List.all_nil, C.flat, List.append_eq, Bool.not_true, Bool.and_true, Bool.or_false, Bool.or_self, Bool.not_false, List.append_nil, Bool.and_self, ↓tpG_rk, ↓cnG_rk, ↓trG_rk, encEp_rk0]) <;> rfl) : RetG σ H h' v K := ret_mk3 hN h hv hk
theorem cH41zgO3 {P : Program} {F : Nat} {args : List T} {H : List Fam} {K : T → List Fam → Prop} {σ : List Sg} {nl : List Fam} {args0 : List T} {h0 : List Fam} {Q : T → List Fam → Prop} {H2 H1 : List Fam} {N n : Nat} (hc : Ctr P F args0 h0 Q) (hk : ∀ v h', Q v h' → capsP h' → RetG σ H2 h' v K) (hap : apart σ = true := by rfl) (hnl : nl.all nilB = true := by rfl) (h1 : H ++ nl = H1 := by first | exact List.append_nil _ | ((try simp only [List.cons_append, List.nil_append]) <;> rfl)) (hN : H1.length = N := by (try simp only [↓List.length_cons, ↓List.length_nil, Nat.reduceAdd]) <;> rfl) (hn : H.length = n := by (try simp only [↓List.length_cons, ↓List.length_nil, Nat.reduceAdd]) <;> rfl) (hH : givesF σ N H1 σ h0 = some H2 := by (try simp (maxSteps := 1000000) only [givesF, setF, updF, Fam.zeroth, Fam.rk, Ck.rk, C.rk, E.rk, T.rk, key, List.map_cons, List.map_nil, List.cons_append, List.nil_append, List.length_cons, List.length_nil, Option.map_some, Option.bind_some, Nat.reduceAdd, Nat.zero_add, Nat.add_zero, Nat.add_sub_cancel_left, Int.toNat_natCast, reps, List.all_cons, List.all_nil, C.flat, List.append_eq, Bool.not_true, Bool.and_true, Bool.or_false, Bool.or_self, Bool.not_false, List.append_nil, Bool.and_self, ↓tpG_rk, ↓cnG_rk, ↓trG_rk]) <;> rfl) (hle : leS n H1 σ N σ h0 (belsK N (h0.map (Fam.rk σ N)) (argsK n args (args0.map (T.rk σ N)) True)) := by repeat' first | refine And.intro ?_ ?_ | exact xeC | fail) : CallK P F args H K := CallK.mk3 hc hap hnl h1 hN hn hH hle hk
set_option maxRecDepth 10000 in
set_option maxHeartbeats 16000000 in
theorem csurvives (n : Int) (w : Bool) (l : List Rc) (c : Nat) (wh at' by' : Int) (hl : l.length ≤ 9223372036854775807) (hby : 0 ≤ by' ∧ by' ≤ 255) :
    Ctr Tryz.prog 3 [.c (.i .i64 n), .c (.sl 0 0 3 0 l.length c), .c (.i .i64 wh), .c (.i .i64 at'), .c (.i .u8 by')] [.one (rcR w l c)]
      fun v h => v = .c .tt := by
  refine Ctr.mk' tbv mixed Tryz.func3 rfl rfl rfl (fun _ _ => by kernel_rfl) (by kernel_rfl) (by rfl) (by rfl) (by (repeat' first | refine And.intro ?_ ?_ | exact xeC | fail) <;> exact xmO) ?_
  repeat' (first | (fail_if_success (with_reducible refine xstp ?_)); first | (with_reducible intro hc; (try simp only [capsP, and_true] at hc); (try exact xfC)) | ((fail_if_success (with_reducible first | refine xgon ?_ | intro _)); (conv => whnf); (fail_if_success (fail_if_success (with_reducible first | refine xstp ?_ | refine xgon ?_ | intro _)))))
  refine cH41zgO3 (σ := [.whole 0]) (nl := []) (cfew2 w l c hl) ?_
  rintro v h' ⟨hq, rfl⟩ hcaps
  rcases hq with rfl | ⟨rfl, hf⟩
  · refine rH41zgO0 ?_
    repeat' (first | (fail_if_success (with_reducible refine xstp ?_)); first | ((fail_if_success (with_reducible first | refine xgon ?_ | intro _)); (conv => whnf); (fail_if_success (fail_if_success (with_reducible first | refine xstp ?_ | refine xgon ?_ | intro _)))))
    refine cH41zgO3 (σ := []) (nl := []) (cawake) ?_
    rintro v h' ⟨rfl, rfl⟩ hcaps
    refine rH41zgO0 ?_
    repeat' (first | (fail_if_success (with_reducible refine xstp ?_)); first | ((fail_if_success (with_reducible first | refine xgon ?_ | intro _)); (conv => whnf); (fail_if_success (fail_if_success (with_reducible first | refine xstp ?_ | refine xgon ?_ | intro _)))))
    refine FinK.mk ⟨[0], _, [.one (rcR w l c)], rfl, ?_⟩
    (repeat' first | refine And.intro ?_ ?_ | exact xeC | fail)
  refine rH41zgO0 ?_
  repeat' (first | (fail_if_success (with_reducible refine xstp ?_)); first | ((with_reducible refine And.intro (fun (hb : _ = true) => ?_) (fun (hb : _ = false) => ?_)) <;> replace hb := xnC hb <;> (try first | exact xfC | exact bff hb (by assumption) | exact bff (by assumption) hb)) | ((fail_if_success (with_reducible first | refine xgon ?_ | intro _)); (conv => whnf); (fail_if_success (fail_if_success (with_reducible first | refine xstp ?_ | refine xgon ?_ | intro _)))))
  · skip
    refine cH41zgO3 (σ := []) (nl := []) (cawake) ?_
    rintro v h' ⟨rfl, rfl⟩ hcaps
    refine rH41zgO0 ?_
    repeat' (first | (fail_if_success (with_reducible refine xstp ?_)); first | ((fail_if_success (with_reducible first | refine xgon ?_ | intro _)); (conv => whnf); (fail_if_success (fail_if_success (with_reducible first | refine xstp ?_ | refine xgon ?_ | intro _)))))
    refine FinK.mk ⟨[0], _, [.one (rcR w l c)], rfl, ?_⟩
    (repeat' first | refine And.intro ?_ ?_ | exact xeC | fail)
  · skip
    refine cH41zgO3 (σ := []) (nl := []) (cawake) ?_
    rintro v h' ⟨rfl, rfl⟩ hcaps
    refine rH41zgO0 ?_
    repeat' (first | (fail_if_success (with_reducible refine xstp ?_)); first | ((fail_if_success (with_reducible first | refine xgon ?_ | intro _)); (conv => whnf); (fail_if_success (fail_if_success (with_reducible first | refine xstp ?_ | refine xgon ?_ | intro _)))))
    refine FinK.mk ⟨[0], _, [.one (rcR w l c)], rfl, ?_⟩
    (repeat' first | refine And.intro ?_ ?_ | exact xeC | fail)
  have hA := accL_ok (l := l) (by have := hf.1.1; omega)
  have hAs := accL_sum l
  have hA40 : (accL l).length ≤ 40 := by have := hf.1.1; omega
  have hA60 : sumP (accL l) ≤ 6000 := by have := hf.2; omega
  refine cH41zgO3 (σ := [.whole 0]) (nl := []) (caccepted w l c hf.1) ?_
  rintro v h' ⟨c1, rfl, rfl⟩ hcaps
  generalize accL l = A at *
  refine rH41zgO0 ?_
  repeat' (first | (fail_if_success (with_reducible refine xstp ?_)); first | ((fail_if_success (with_reducible first | refine xgon ?_ | intro _)); (conv => whnf); (fail_if_success (fail_if_success (with_reducible first | refine xstp ?_ | refine xgon ?_ | intro _)))))
  obtain ⟨hE, hO, hB⟩ := made_open hA n
  have hL := hA.lok n
  have hfl := (hA.wr n).fl
  have hS : madeB n A = bagB (wrA n A).L := rfl
  refine cH41zgO3 (σ := [.whole 1]) (nl := []) (cmade n (by omega) true A c1 hA) ?_
  rw [hS] at hE hO ⊢
  generalize (wrA n A).L = L at *
  rw [← hfl] at hA40 hA60
  have hsh := bag_short hL hA40 hA60
  have hrp := rp_whole hL hA40
  rintro v h' ⟨rfl, rfl⟩ hcaps
  refine rH41zgO0 ?_
  repeat' (first | (fail_if_success (with_reducible refine xstp ?_)); first | ((fail_if_success (with_reducible first | refine xgon ?_ | intro _)); (conv => whnf); (fail_if_success (fail_if_success (with_reducible first | refine xstp ?_ | refine xgon ?_ | intro _)))))
  refine cH41zgO3 (σ := []) (nl := []) (cOpenRef (bagB L) (by omega)) ?_ (hle := by (repeat' first | refine And.intro ?_ ?_ | exact xeC | fail) <;> exact xmO)
  rintro v h' hq hcaps
  rcases hq with ⟨hq, _⟩ | ⟨_, Y, d, hY, rfl, rfl⟩
  · exact absurd hE hq
  rw [hO] at hY ⊢
  have hLl : Y.length = L.length := by
    have := congrArg List.length hY
    rwa [ers, List.length_map, show (bgL L).L = entsO 5 L from rfl, entsO_len] at this
  refine rH41zgO1 ?_
  repeat' (first | (fail_if_success (with_reducible refine xstp ?_)); first | ((with_reducible refine And.intro (fun (hb : _ = true) => ?_) (fun (hb : _ = false) => ?_)) <;> replace hb := xnC hb <;> (try first | exact xfC | exact bff hb (by assumption) | exact bff (by assumption) hb)) | ((fail_if_success (with_reducible first | refine xgon ?_ | intro _)); (conv => whnf); (fail_if_success (fail_if_success (with_reducible first | refine xstp ?_ | refine xgon ?_ | intro _)))))
  refine cH41zgO3 (σ := []) (nl := []) (cRepair (bagB L) (by omega)) ?_ (hle := by (repeat' first | refine And.intro ?_ ?_ | exact xeC | fail) <;> exact xmO)
  rw [repV_ok hrp.1 hrp.2]
  rintro v h' ⟨rfl, rfl⟩ hcaps
  refine rH41zgO0 ?_
  have hAl : L.flatten.length = A.length := by rw [hfl]
  repeat' (first | (fail_if_success (with_reducible refine xstp ?_)); first | ((with_reducible refine And.intro (fun (hb : _ = true) => ?_) (fun (hb : _ = false) => ?_)) <;> replace hb := xnC hb <;> (try first | exact xfC | exact bff hb (by assumption) | exact bff (by assumption) hb)) | ((with_reducible refine And.intro ?_ ?_); focus exact xoC) | ((fail_if_success (with_reducible first | refine xgon ?_ | intro _)); (conv => whnf); (fail_if_success (fail_if_success (with_reducible first | refine xstp ?_ | refine xgon ?_ | intro _)))))
  · skip
    refine cH41zgO3 (σ := []) (nl := []) (cawake) ?_
    rintro v h' ⟨rfl, rfl⟩ hcaps
    refine rH41zgO0 ?_
    repeat' (first | (fail_if_success (with_reducible refine xstp ?_)); first | ((fail_if_success (with_reducible first | refine xgon ?_ | intro _)); (conv => whnf); (fail_if_success (fail_if_success (with_reducible first | refine xstp ?_ | refine xgon ?_ | intro _)))))
    refine FinK.mk ⟨[0], _, [.one (rcR w l c)], rfl, ?_⟩
    (repeat' first | refine And.intro ?_ ?_ | exact xeC | fail)
  · skip
    refine cH41zgO3 (σ := []) (nl := []) (cawake) ?_
    rintro v h' ⟨rfl, rfl⟩ hcaps
    refine rH41zgO0 ?_
    repeat' (first | (fail_if_success (with_reducible refine xstp ?_)); first | ((fail_if_success (with_reducible first | refine xgon ?_ | intro _)); (conv => whnf); (fail_if_success (fail_if_success (with_reducible first | refine xstp ?_ | refine xgon ?_ | intro _)))))
    refine FinK.mk ⟨[0], _, [.one (rcR w l c)], rfl, ?_⟩
    (repeat' first | refine And.intro ?_ ?_ | exact xeC | fail)
  · skip
    refine cH41zgO3 (σ := []) (nl := []) (cawake) ?_
    rintro v h' ⟨rfl, rfl⟩ hcaps
    refine rH41zgO0 ?_
    repeat' (first | (fail_if_success (with_reducible refine xstp ?_)); first | ((fail_if_success (with_reducible first | refine xgon ?_ | intro _)); (conv => whnf); (fail_if_success (fail_if_success (with_reducible first | refine xstp ?_ | refine xgon ?_ | intro _)))))
    refine FinK.mk ⟨[0], _, [.one (rcR w l c)], rfl, ?_⟩
    (repeat' first | refine And.intro ?_ ?_ | exact xeC | fail)
  · skip
    refine cH41zgO3 (σ := []) (nl := []) (cawake) ?_
    rintro v h' ⟨rfl, rfl⟩ hcaps
    refine rH41zgO0 ?_
    repeat' (first | (fail_if_success (with_reducible refine xstp ?_)); first | ((fail_if_success (with_reducible first | refine xgon ?_ | intro _)); (conv => whnf); (fail_if_success (fail_if_success (with_reducible first | refine xstp ?_ | refine xgon ?_ | intro _)))))
    refine FinK.mk ⟨[0], _, [.one (rcR w l c)], rfl, ?_⟩
    (repeat' first | refine And.intro ?_ ?_ | exact xeC | fail)
  obtain ⟨k, rfl⟩ : ∃ k : Nat, wh = (k : Nat) := ⟨wh.toNat, by omega⟩
  have hk : k < L.length := by omega
  have e2 : 0 + ((k : Nat) : Int).toNat = k := by omega
  have hof : ∀ i, i < L.length → (Y.getD i default).e.off = 5 + (secsB (L.take i)).length := fun i hi => by
    rw [← getErs, hY, show (bgL L).L = entsO 5 L from rfl, entsO_at L 5 i hi]
    rfl
  have hz : (mkS (bagB L)).size = (bagB L).length := rfl
  have hrm : rem (mkS (bagB L)) (5 + (secsB (L.take k)).length) = textL (sealL (conB (L.getD k default))) ++ (secsB (L.drop (k + 1)) ++ (textL (sealL (indB L)) ++ (le 8 (5 + (secsB L).length) ++ magic))) := by
    have e : bagB L = (magic ++ secsB (L.take k)) ++ (textL (sealL (conB (L.getD k default))) ++ (secsB (L.drop (k + 1)) ++ (textL (sealL (indB L)) ++ (le 8 (5 + (secsB L).length) ++ magic)))) := by
      have e1 : secsB L = secsB (L.take k) ++ (textL (sealL (conB (L.getD k default))) ++ secsB (L.drop (k + 1))) := by
        conv => lhs; rw [secsB_tl L (k + 1), secsB_take hk]
        simp only [secB, List.append_assoc]
      conv => lhs; rw [bagB, e1]
      simp only [List.append_assoc]
      rw [← e1]
    show (bagB L).drop _ = _
    rw [e]
    exact List.drop_left' (by rw [List.length_append]; rfl)
  have hrl := rem_len hrm
  rw [hz] at hrl
  simp only [List.length_append, le_length] at hrl
  have hRT := ReadT_fw (m := ((bagB L).length : Nat)) (by have := textL_ge (sealL (conB (L.getD k default))); omega) (by have := textL_ge (sealL (conB (L.getD k default))); omega) hrm
  rw [e2, hof k hk]
  refine cH41zgO3 (σ := []) (nl := []) (cRText (mkS (bagB L)) (5 + (secsB (L.take k)).length) 0 ((bagB L).length : Nat) (by omega) (by omega) (by omega)) ?_ (hle := by (repeat' first | refine And.intro ?_ ?_ | exact xeC | fail) <;> exact xmO)
  rw [hRT]
  have hspo := fun p b => spo_set (L := L) (w := k) (p := p) (b := b) hk
  have hop := fun p b => open_spoilt (c := conB (L.getD k default)) (i := p) (b := b)
  have hXl : (sealL (conB (L.getD k default))).length ≤ 15000 := by have := textL_ge (sealL (conB (L.getD k default))); omega
  have hTl : (textL (sealL (conB (L.getD k default)))).length = (venc (sealL (conB (L.getD k default))).length).length + (sealL (conB (L.getD k default))).length := by rw [textL, List.length_append]
  have hXz : (mkS (sealL (conB (L.getD k default)))).size = (sealL (conB (L.getD k default))).length := rfl
  have hSp : ∀ p, p < (sealL (conB (L.getD k default))).length → (bagB L).getD (5 + (secsB (L.take k)).length + (venc (sealL (conB (L.getD k default))).length).length + p) default = (sealL (conB (L.getD k default))).getD p default := fun p hp => by
    have h1 : (rem (mkS (bagB L)) (5 + (secsB (L.take k)).length)).getD ((venc (sealL (conB (L.getD k default))).length).length + p) default = (sealL (conB (L.getD k default))).getD p default := by
      rw [hrm]
      exact getD_mid hp
    rw [← h1]
    simp only [List.getD, rem]
    rw [List.getElem?_drop, Nat.add_assoc]
  generalize hX : sealL (conB (L.getD k default)) = X at *
  generalize 5 + (secsB (L.take k)).length = o at *
  rintro v h' ⟨rfl, rfl⟩ hcaps
  refine rH41zgO0 ?_
  repeat' (first | (fail_if_success (with_reducible refine xstp ?_)); first | ((with_reducible refine And.intro (fun (hb : _ = true) => ?_) (fun (hb : _ = false) => ?_)) <;> replace hb := xnC hb <;> (try first | exact xfC | exact bff hb (by assumption) | exact bff (by assumption) hb)) | ((with_reducible refine And.intro ?_ ?_); focus exact xoC) | ((fail_if_success (with_reducible first | refine xgon ?_ | intro _)); (conv => whnf); (fail_if_success (fail_if_success (with_reducible first | refine xstp ?_ | refine xgon ?_ | intro _)))))
  · skip
    refine cH41zgO3 (σ := []) (nl := []) (cawake) ?_
    rintro v h' ⟨rfl, rfl⟩ hcaps
    refine rH41zgO0 ?_
    repeat' (first | (fail_if_success (with_reducible refine xstp ?_)); first | ((fail_if_success (with_reducible first | refine xgon ?_ | intro _)); (conv => whnf); (fail_if_success (fail_if_success (with_reducible first | refine xstp ?_ | refine xgon ?_ | intro _)))))
    refine FinK.mk ⟨[0], _, [.one (rcR w l c)], rfl, ?_⟩
    (repeat' first | refine And.intro ?_ ?_ | exact xeC | fail)
  obtain ⟨p, rfl⟩ : ∃ p : Nat, at' = (p : Nat) := ⟨at'.toNat, by omega⟩
  have hp : p < X.length := by omega
  generalize hV : (venc X.length).length = V at *
  have i1 : (((o + (textL X).length : Nat) : Int) - (mkS X).size + (p : Nat)).toNat = o + V + p := by omega
  have i2 : (((o + (textL X).length : Nat) : Int) - (mkS X).size + (p : Nat) + 1).toNat = o + V + p + 1 := by omega
  rw [i1, i2]
  have hq := hSp p hp
  rw [← getB (by omega)] at hq
  rw [hq]
  obtain ⟨b, hb8⟩ : ∃ b : UInt8, C.i .u8 (IntKind.u8.wrap (((X.getD p default).toNat : Int) + by')) = .i .u8 (b.toNat : Nat) ∧ b ≠ X.getD p default := spo_byte _ _ (by omega) (by omega)
  rw [hb8.1]
  refine ⟨⟨rfl, rfl, by omega, fun i hi => ?_⟩, ?_⟩
  · obtain rfl : i = 0 := by omega
    exact isU8_nat b
  have hbo : bytesOf (chunkOf 1 (C.i IntKind.u8 (b.toNat : Nat) :: [].append (reps 0 [C.i .u8 0]))) 0 1 = mkS [b] := bytesOf_row [b] _ 0 1 (fun i hi => by
    have h0 : i = 0 := Nat.lt_one_iff.1 hi
    subst h0
    rfl) (Nat.le_refl _)
  have hx1 : (mkS (bagB L)).extract 0 (o + V + p) = mkS ((bagB L).take (o + V + p)) := by rw [mkS_ext]; rfl
  have hx2 : (mkS (bagB L)).extract (o + V + p + 1) (mkS (bagB L)).size = mkS ((bagB L).drop (o + V + p + 1)) := by rw [mkS_ext, hz, List.take_length]
  have hspl : mkS ((bagB L).take (o + V + p)) ++ mkS [b] ++ mkS ((bagB L).drop (o + V + p + 1)) = mkS (spoB L k (X.set p b)) := by
    rw [mkS_append, mkS_append, ← hspo p b hp, set_split (by omega)]
    simp
  have hsl : (spoB L k (X.set p b)).length = (bagB L).length := by rw [← hspo p b hp, List.length_set]
  rw [hbo, hx1, hx2]
  have z1 : (mkS ((bagB L).take (o + V + p))).size ≤ 15000 := by show ((bagB L).take (o + V + p)).length ≤ _; rw [List.length_take]; omega
  have z2 : (mkS ((bagB L).drop (o + V + p + 1))).size ≤ 15000 := by show ((bagB L).drop (o + V + p + 1)).length ≤ _; rw [List.length_drop]; omega
  have z3 : (mkS [b]).size = 1 := rfl
  have z4 : (mkS ((bagB L).take (o + V + p)) ++ mkS [b]).size ≤ 15001 := by rw [mkS_append]; show ((bagB L).take (o + V + p) ++ [b]).length ≤ _; rw [List.length_append, List.length_take, List.length_singleton]; omega
  repeat' (first | (fail_if_success (with_reducible refine xstp ?_)); first | ((with_reducible refine And.intro ?_ ?_); focus exact xoC) | ((fail_if_success (with_reducible first | refine xgon ?_ | intro _)); (conv => whnf); (fail_if_success (fail_if_success (with_reducible first | refine xstp ?_ | refine xgon ?_ | intro _)))))
  rw [hspl]
  have hsp2 := rp_spoilt (L := L) (w := k) (X := X.set p b) hL hA40 (hop p b hp hb8.2) (by rw [List.length_set]; omega)
  generalize spoB L k (X.set p b) = Z at *
  clear hspo hSp hop hrm hrl hRT hq hspl i1 i2 hTl hbo hx1 hx2 z1 z2 z3 z4 hb8
  obtain ⟨W2, hG⟩ := spo_facts hL hA40 hA60 hsp2
  clear hsp2
  have hix : (bgL L).ix = 5 + (secsB L).length := rfl
  have hbs : (bgL L).s = bagB L := rfl
  have hbl := bagB_len L
  generalize (bgL L) = B at *
  refine LoopK.mk' {p : Nat × Nat // p.1 ≤ L.length}
    (fun ⟨(i, c3), _⟩ => ⟨[(2, .c (.i .i64 (k : Nat))), (11, .c (.s (mkS (bagB L)))), (13, .c (.p 1 0 0)), (21, .c (.s (mkS Z))), (22, .c (.sl 4 0 3 0 (wntL L k i).length c3)), (23, .c (.i .i64 (i : Nat)))],
      [.one (rcR w l c), .one (rbC B 2 Y.length d), .one (erR 3 Y d), .many (trG Y), .one (rcR true (wntL L k i) c3)]⟩) (fun p => L.length - p.1.1)
    ⟨⟨(0, 0), Nat.zero_le _⟩, [0, 2, 3, 4, 99], ?_⟩ ?_
  · (repeat' first | refine And.intro ?_ ?_ | exact xeC | fail)
    all_goals first
      | exact xmO
      | (intro i hi; exact absurd hi (Nat.not_lt_zero i))
      | skip
  rintro ⟨⟨i, c3⟩, hi⟩
  simp only at hi
  have hw40 := wnt_le hA40 k i
  have e3 : 0 + ((i : Nat) : Int).toNat = i := by omega
  rcases Nat.lt_or_ge i L.length with hlt | hge
  · obtain ⟨q1, q2, q3⟩ := sec_at hlt
    have q4 := hof i hlt
    have e4 : 0 + (((i : Nat) : Int) + 1).toNat = i + 1 := by omega
    have hLn := hL.len
    have q4r : (Y.getD (0 + ((i : Nat) : Int).toNat) default).e.off = 5 + (secsB (L.take i)).length := by rw [e3]; exact q4
    have q5r : i + 1 < L.length → (Y.getD (0 + (((i : Nat) : Int) + 1).toNat) default).e.off = 5 + (secsB (L.take (i + 1))).length := fun h => by rw [e4]; exact hof (i + 1) h
    have hm : ({ data := #[82, 66, 65, 71, 49] } : ByteArray) = mkS magic := rfl
    have ex : ∀ a b : Nat, a = 5 + (secsB (L.take i)).length → b = 5 + (secsB (L.take (i + 1))).length → (mkS (bagB L)).extract a b = mkS (secB (L.getD i default)) := fun a b ha hb => by rw [ha, hb, mkS_ext, q3]
    have hlast : ¬ i + 1 < L.length → (secsB (L.take (i + 1))).length = (secsB L).length := fun h => by rw [List.take_of_length_le (by omega)]
    have hzs : (mkS (secB (L.getD i default))).size = (secB (L.getD i default)).length := rfl
    have hzm : (mkS magic).size = 5 := rfl
    obtain ⟨M, W, cnt, hF⟩ := one_facts hL hA40 hA60 hlt
    have hx40 := hF.xl
    have hW : WStep L k i (L.getD i default) := ⟨wnt_at hlt, wnt_go hlt⟩
    generalize L.getD i default = x at *
    repeat' (first | (fail_if_success (with_reducible refine xstp ?_)); first | ((with_reducible refine And.intro (fun (hb : _ = true) => ?_) (fun (hb : _ = false) => ?_)) <;> replace hb := xnC hb <;> (try first | exact xfC | exact bff hb (by assumption) | exact bff (by assumption) hb)) | ((with_reducible refine And.intro ?_ ?_); focus exact xoC) | (with_reducible intro hc; (try simp only [capsP, and_true] at hc); (try exact xfC)) | ((fail_if_success (with_reducible first | refine xgon ?_ | intro _)); (conv => whnf); (fail_if_success (fail_if_success (with_reducible first | refine xstp ?_ | refine xgon ?_ | intro _)))))
    · skip
      have q6 := q5r (by omega)
      rw [ex _ _ (by omega) (by omega)]
      clear q6
      with_reducible rw [hm]
      clear q5r hlast ex hof q4 q4r q3 hm
      repeat' (first | (fail_if_success (with_reducible refine xstp ?_)); first | ((with_reducible refine And.intro ?_ ?_); focus exact xoC) | ((fail_if_success (with_reducible first | refine xgon ?_ | intro _)); (conv => whnf); (fail_if_success (fail_if_success (with_reducible first | refine xstp ?_ | refine xgon ?_ | intro _)))))
      rw [hF.app]
      refine cH41zgO3 (σ := []) (nl := []) (cRepairR M hF.ml) ?_ (hle := by (repeat' first | refine And.intro ?_ ?_ | exact xeC | fail) <;> exact xmO)
      rw [hF.rep]
      rintro v h' ⟨rfl, rfl⟩ hcaps
      refine rH41zgO0 ?_
      repeat' (first | (fail_if_success (with_reducible refine xstp ?_)); first | ((fail_if_success (with_reducible first | refine xgon ?_ | intro _)); (conv => whnf); (fail_if_success (fail_if_success (with_reducible first | refine xstp ?_ | refine xgon ?_ | intro _)))))
      refine cH41zgO3 (σ := []) (nl := []) (cReadS W x hF.wl hF.e hF.b hF.r) ?_ (hle := by (repeat' first | refine And.intro ?_ ?_ | exact xeC | fail) <;> exact xmO)
      rintro v h' ⟨c4, rfl, rfl⟩ hcaps
      refine rH41zgO0 ?_
      repeat' (first | (fail_if_success (with_reducible refine xstp ?_)); first | ((with_reducible refine And.intro (fun (hb : _ = true) => ?_) (fun (hb : _ = false) => ?_)) <;> replace hb := xnC hb <;> (try first | exact xfC | exact bff hb (by assumption) | exact bff (by assumption) hb | (exfalso; simp only [List.length_nil] at hb; omega) | (exfalso; revert hb; decide) | (exfalso; simp at hb; done))) | (with_reducible refine Both.mk ?_ ?_) | ((with_reducible refine And.intro ?_ ?_); focus exact xoC) | ((with_reducible refine Or.inl ⟨?_, ?_, ?_⟩); (focus rfl); focus exact xaC) | ((with_reducible refine xwB ?_ ?_); focus exact xaC) | ((with_reducible refine xwC ?_ ?_); focus exact xaC) | ((with_reducible refine xwD ?_ ?_); focus exact xaC) | ((with_reducible refine xwE ?_ ?_); focus exact xaC) | (with_reducible intro hc; (try simp only [capsP, and_true] at hc); (try exact xfC)) | ((fail_if_success (with_reducible first | refine xgon ?_ | intro _)); (conv => whnf); (fail_if_success (fail_if_success (with_reducible first | refine xstp ?_ | refine Both.mk ?_ ?_ | refine xgon ?_ | intro _)))))
      · rename_i c5
        have hw := hW.2 (by omega)
        refine ⟨⟨(i + 1, c5), hlt⟩, [0, 1, 2, 3, 6], by simp only; omega, ?_⟩
        simp only [hw]
        (repeat' first | refine And.intro ?_ ?_ | exact xeC | fail)
        all_goals first
          | exact xmO
          | (rw [List.length_append]; omega)
          | (rw [List.length_append]; done)
          | exact Nat.le_refl _
          | exact fun i hi => app_list encR _ _ i (by rwa [List.length_append] at hi)
          | exact app_list encR _ _
          | skip
      · have hw := hW.1 (by omega)
        refine ⟨⟨(i + 1, c3), hlt⟩, [0, 1, 2, 3, 4], by simp only; omega, ?_⟩
        simp only [hw]
        (repeat' first | refine And.intro ?_ ?_ | exact xeC | fail)
        all_goals first
          | exact xmO
          | skip
    · skip
      have q6 := hlast (by omega)
      rw [ex _ _ (by omega) (by omega)]
      clear q6
      with_reducible rw [hm]
      clear q5r hlast ex hof q4 q4r q3 hm
      repeat' (first | (fail_if_success (with_reducible refine xstp ?_)); first | ((with_reducible refine And.intro ?_ ?_); focus exact xoC) | ((fail_if_success (with_reducible first | refine xgon ?_ | intro _)); (conv => whnf); (fail_if_success (fail_if_success (with_reducible first | refine xstp ?_ | refine xgon ?_ | intro _)))))
      rw [hF.app]
      refine cH41zgO3 (σ := []) (nl := []) (cRepairR M hF.ml) ?_ (hle := by (repeat' first | refine And.intro ?_ ?_ | exact xeC | fail) <;> exact xmO)
      rw [hF.rep]
      rintro v h' ⟨rfl, rfl⟩ hcaps
      refine rH41zgO0 ?_
      repeat' (first | (fail_if_success (with_reducible refine xstp ?_)); first | ((fail_if_success (with_reducible first | refine xgon ?_ | intro _)); (conv => whnf); (fail_if_success (fail_if_success (with_reducible first | refine xstp ?_ | refine xgon ?_ | intro _)))))
      refine cH41zgO3 (σ := []) (nl := []) (cReadS W x hF.wl hF.e hF.b hF.r) ?_ (hle := by (repeat' first | refine And.intro ?_ ?_ | exact xeC | fail) <;> exact xmO)
      rintro v h' ⟨c4, rfl, rfl⟩ hcaps
      refine rH41zgO0 ?_
      repeat' (first | (fail_if_success (with_reducible refine xstp ?_)); first | ((with_reducible refine And.intro (fun (hb : _ = true) => ?_) (fun (hb : _ = false) => ?_)) <;> replace hb := xnC hb <;> (try first | exact xfC | exact bff hb (by assumption) | exact bff (by assumption) hb | (exfalso; simp only [List.length_nil] at hb; omega) | (exfalso; revert hb; decide) | (exfalso; simp at hb; done))) | (with_reducible refine Both.mk ?_ ?_) | ((with_reducible refine And.intro ?_ ?_); focus exact xoC) | ((with_reducible refine Or.inl ⟨?_, ?_, ?_⟩); (focus rfl); focus exact xaC) | ((with_reducible refine xwB ?_ ?_); focus exact xaC) | ((with_reducible refine xwC ?_ ?_); focus exact xaC) | ((with_reducible refine xwD ?_ ?_); focus exact xaC) | ((with_reducible refine xwE ?_ ?_); focus exact xaC) | (with_reducible intro hc; (try simp only [capsP, and_true] at hc); (try exact xfC)) | ((fail_if_success (with_reducible first | refine xgon ?_ | intro _)); (conv => whnf); (fail_if_success (fail_if_success (with_reducible first | refine xstp ?_ | refine Both.mk ?_ ?_ | refine xgon ?_ | intro _)))))
      · rename_i c5
        have hw := hW.2 (by omega)
        refine ⟨⟨(i + 1, c5), hlt⟩, [0, 1, 2, 3, 6], by simp only; omega, ?_⟩
        simp only [hw]
        (repeat' first | refine And.intro ?_ ?_ | exact xeC | fail)
        all_goals first
          | exact xmO
          | (rw [List.length_append]; omega)
          | (rw [List.length_append]; done)
          | exact Nat.le_refl _
          | exact fun i hi => app_list encR _ _ i (by rwa [List.length_append] at hi)
          | exact app_list encR _ _
          | skip
      · have hw := hW.1 (by omega)
        refine ⟨⟨(i + 1, c3), hlt⟩, [0, 1, 2, 3, 4], by simp only; omega, ?_⟩
        simp only [hw]
        (repeat' first | refine And.intro ?_ ?_ | exact xeC | fail)
        all_goals first
          | exact xmO
          | skip
  · obtain rfl : i = L.length := by omega
    have hwa := wnt_all L k
    have hwl := hG.dl
    repeat' (first | (fail_if_success (with_reducible refine xstp ?_)); first | ((with_reducible refine And.intro (fun (hb : _ = true) => ?_) (fun (hb : _ = false) => ?_)) <;> replace hb := xnC hb <;> (try first | exact xfC | exact bff hb (by assumption) | exact bff (by assumption) hb)) | (with_reducible intro hc; (try simp only [capsP, and_true] at hc); (try exact xfC)) | ((fail_if_success (with_reducible first | refine xgon ?_ | intro _)); (conv => whnf); (fail_if_success (fail_if_success (with_reducible first | refine xstp ?_ | refine xgon ?_ | intro _)))))
    refine cH41zgO3 (σ := []) (nl := []) (cRepair Z (by omega)) ?_ (hle := by (repeat' first | refine And.intro ?_ ?_ | exact xeC | fail) <;> exact xmO)
    rw [hG.rep, ← hwa]
    rintro v h' ⟨rfl, rfl⟩ hcaps
    refine rH41zgO0 ?_
    repeat' (first | (fail_if_success (with_reducible refine xstp ?_)); first | ((fail_if_success (with_reducible first | refine xgon ?_ | intro _)); (conv => whnf); (fail_if_success (fail_if_success (with_reducible first | refine xstp ?_ | refine xgon ?_ | intro _)))))
    refine cH41zgO3 (σ := []) (nl := []) (cOpenB W2 (by have := hG.wl; omega)) ?_ (hle := by (repeat' first | refine And.intro ?_ ?_ | exact xeC | fail) <;> exact xmO)
    rintro v h' hq hcaps
    rcases hq with ⟨hq, _⟩ | ⟨_, X2, c6, hX2, rfl, rfl⟩
    · exact absurd hG.e hq
    refine rH41zgO2 ?_
    repeat' (first | (fail_if_success (with_reducible refine xstp ?_)); first | ((with_reducible refine And.intro (fun (hb : _ = true) => ?_) (fun (hb : _ = false) => ?_)) <;> replace hb := xnC hb <;> (try first | exact xfC | exact bff hb (by assumption) | exact bff (by assumption) hb | (exfalso; simp only [List.length_nil] at hb; omega) | (exfalso; revert hb; decide) | (exfalso; simp at hb; done))) | (with_reducible refine Both.mk ?_ ?_) | ((with_reducible refine And.intro ?_ ?_); focus exact xoC) | ((with_reducible refine Or.inl ⟨?_, ?_, ?_⟩); (focus rfl); focus exact xaC) | ((with_reducible refine xwB ?_ ?_); focus exact xaC) | ((with_reducible refine xwC ?_ ?_); focus exact xaC) | ((with_reducible refine xwD ?_ ?_); focus exact xaC) | ((with_reducible refine xwE ?_ ?_); focus exact xaC) | (with_reducible intro hc; (try simp only [capsP, and_true] at hc); (try exact xfC)) | ((fail_if_success (with_reducible first | refine xgon ?_ | intro _)); (conv => whnf); (fail_if_success (fail_if_success (with_reducible first | refine xstp ?_ | refine Both.mk ?_ ?_ | refine xgon ?_ | intro _)))))
    refine cH41zgO3 (σ := [.whole 5, .whole 6, .whole 7, .whole 8]) (nl := []) (cAll (bgO W2) X2 c6 hG.b hX2) ?_ (hle := by (repeat' first | refine And.intro ?_ ?_ | exact xeC | fail) <;> exact xmO)
    rw [hG.r, ← hwa]
    rintro v h' ⟨c7, rfl, rfl⟩ hcaps
    refine rH41zgO0 ?_
    repeat' (first | (fail_if_success (with_reducible refine xstp ?_)); first | ((with_reducible refine And.intro (fun (hb : _ = true) => ?_) (fun (hb : _ = false) => ?_)) <;> replace hb := xnC hb <;> (try first | exact xfC | exact bff hb (by assumption) | exact bff (by assumption) hb | (exfalso; simp only [List.length_nil] at hb; omega) | (exfalso; revert hb; decide) | (exfalso; simp at hb; done))) | (with_reducible refine Both.mk ?_ ?_) | ((with_reducible refine And.intro ?_ ?_); focus exact xoC) | ((with_reducible refine Or.inl ⟨?_, ?_, ?_⟩); (focus rfl); focus exact xaC) | ((with_reducible refine xwB ?_ ?_); focus exact xaC) | ((with_reducible refine xwC ?_ ?_); focus exact xaC) | ((with_reducible refine xwD ?_ ?_); focus exact xaC) | ((with_reducible refine xwE ?_ ?_); focus exact xaC) | (with_reducible intro hc; (try simp only [capsP, and_true] at hc); (try exact xfC)) | ((fail_if_success (with_reducible first | refine xgon ?_ | intro _)); (conv => whnf); (fail_if_success (fail_if_success (with_reducible first | refine xstp ?_ | refine Both.mk ?_ ?_ | refine xgon ?_ | intro _)))))
    refine cH41zgO3 (σ := [.whole 9, .whole 4]) (nl := []) (cSame true true (wntL L k L.length) (wntL L k L.length) c7 c3 (wntL L k L.length).length (by omega) (Nat.le_refl _)) ?_
    rw [decide_eq_true (p := wntL L k L.length = (wntL L k L.length).take (wntL L k L.length).length) (by rw [List.take_length])]
    rintro v h' ⟨rfl, rfl⟩ hcaps
    refine rH41zgO0 ?_
    repeat' (first | (fail_if_success (with_reducible refine xstp ?_)); first | ((with_reducible refine And.intro (fun (hb : _ = true) => ?_) (fun (hb : _ = false) => ?_)) <;> replace hb := xnC hb <;> (try first | exact xfC | exact bff hb (by assumption) | exact bff (by assumption) hb | (exfalso; simp only [List.length_nil] at hb; omega) | (exfalso; revert hb; decide) | (exfalso; simp at hb; done))) | (with_reducible refine Both.mk ?_ ?_) | ((with_reducible refine And.intro ?_ ?_); focus exact xoC) | ((with_reducible refine Or.inl ⟨?_, ?_, ?_⟩); (focus rfl); focus exact xaC) | ((with_reducible refine xwB ?_ ?_); focus exact xaC) | ((with_reducible refine xwC ?_ ?_); focus exact xaC) | ((with_reducible refine xwD ?_ ?_); focus exact xaC) | ((with_reducible refine xwE ?_ ?_); focus exact xaC) | (with_reducible intro hc; (try simp only [capsP, and_true] at hc); (try exact xfC)) | ((fail_if_success (with_reducible first | refine xgon ?_ | intro _)); (conv => whnf); (fail_if_success (fail_if_success (with_reducible first | refine xstp ?_ | refine Both.mk ?_ ?_ | refine xgon ?_ | intro _)))))
    refine cH41zgO3 (σ := []) (nl := []) (cawake) ?_
    rintro v h' ⟨rfl, rfl⟩ hcaps
    refine rH41zgO0 ?_
    repeat' (first | (fail_if_success (with_reducible refine xstp ?_)); first | ((fail_if_success (with_reducible first | refine xgon ?_ | intro _)); (conv => whnf); (fail_if_success (fail_if_success (with_reducible first | refine xstp ?_ | refine xgon ?_ | intro _)))))
    refine FinK.mk ⟨[0], _, [.one (rcR w l c)], rfl, ?_⟩
    (repeat' first | refine And.intro ?_ ?_ | exact xeC | fail)
end Go.Proofs.YtkjkbpnhocjenaaGreat


namespace Go.Proofs.YtkjkbpnhocjenaaGreat
open Go.X Go.RowKit
set_option linter.unusedVariables false
theorem walk_BagSurvives (W : World) (a0 : Int) (w0 : (Lit.int .i64 a0).wf = true) (v1 : Value) (k1 : VK W (.sl [.i .i64, .s, .s]) v1) (e1 : ∀ a n c, v1 = .slice (some a) n c → a.spot = none) (a2 : Int) (w2 : (Lit.int .i64 a2).wf = true) (a3 : Int) (w3 : (Lit.int .i64 a3).wf = true) (a4 : Int) (w4 : (Lit.int .u8 a4).wf = true) :
    Calls Tryz.prog 3 #[.int .i64 a0, v1, .int .i64 a2, .int .i64 a3, .int .u8 a4] W fun e W' => e = .returned (.bool true) ∧ Below W.heap.size W W' := by
  obtain ⟨A, l, c, hl, hv, hh⟩ := recs_view k1 e1
  obtain ⟨hf, hno⟩ := one_read (β := fun _ _ => A) (W := W) (ck := rcR false l c) (hh _) rfl
  have hv' := hv (fun _ _ => A) 0 0 rfl
  have hw : 0 ≤ a4 ∧ a4 ≤ 255 := wf_bounds w4
  have := glue (csurvives a0 false l c a2 a3 a4 hl hw) hf hno
  simp only [List.map_cons, List.map_nil, T.ren, hv', show ∀ x, C.ren (fun _ _ => A) (.i .i64 x) = .int .i64 x from fun _ => rfl, show ∀ x, C.ren (fun _ _ => A) (.i .u8 x) = .int .u8 x from fun _ => rfl] at this
  exact this
end Go.Proofs.YtkjkbpnhocjenaaGreat

