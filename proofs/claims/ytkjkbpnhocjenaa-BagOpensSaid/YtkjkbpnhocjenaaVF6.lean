/- Part 6 of the texts that a walk of this program rests on: an abstract machine, its soundness, contracts of functions. No statement of the seat is proved in this file. -/
import Derived.Test.YtkjkbpnhocjenaaVF5
namespace Go.Proofs.Ytkjkbpnhocjenaa
open Go.X
open P4
open P5
abbrev rem (s : ByteArray) (a : Nat) : List UInt8 := s.data.toList.drop a
theorem rem_step {s : ByteArray} {a k : Nat} {x r : List UInt8} (h : rem s a = x ++ r) (hk : k = x.length) : rem s (a + k) = r := by
  subst hk
  unfold rem at *
  rw [← List.drop_drop, h, List.drop_append_of_le_length (Nat.le_refl _), List.drop_of_length_le (Nat.le_refl _), List.nil_append]
theorem rdU_fw {s : ByteArray} {a n : Nat} {r : List UInt8} (hn : n < 18446744073709551616) (h : rem s a = venc n ++ r) : ∃ a', rdU s a 0 = (n, a', 0) ∧ rem s a' = r := by
  refine ⟨a + (venc n).length, ?_, rem_step h rfl⟩
  rw [rdU, if_pos rfl]
  unfold rem at h
  rw [h, vdec_enc n r hn]
theorem rdS_fw {s : ByteArray} {a n : Nat} {r : List UInt8} {m : Int} (hn : n < 18446744073709551616) (hm : (n : Int) ≤ m) (h : rem s a = venc n ++ r) : ∃ a', rdS s a 0 m = (n, a', 0) ∧ rem s a' = r := by
  refine ⟨a + (venc n).length, ?_, rem_step h rfl⟩
  rw [rdS_U, rdU, if_pos rfl]
  unfold rem at h
  rw [h, vdec_enc n r hn, if_pos rfl, if_neg (by simp only; omega)]
theorem rdA_fw {s : ByteArray} {a n : Nat} {r : List UInt8} (hn : n ≤ 1099511627776) (h : rem s a = venc n ++ r) : ∃ a', rdAt s a 0 = (n, a', 0) ∧ rem s a' = r := rdS_fw (by omega) (by omega) h
theorem rdT_fw {s : ByteArray} {a : Nat} {x r : List UInt8} {m : Int} (hn : x.length < 18446744073709551616) (hm : (x.length : Int) ≤ m) (h : rem s a = textL x ++ r) : ∃ a', rdT s a 0 m = (x, a', 0) ∧ rem s a' = r := by
  have h1 : rem s a = venc x.length ++ (x ++ r) := by rw [h, textL, List.append_assoc]
  have h2 : rem s (a + (venc x.length).length) = x ++ r := rem_step h1 rfl
  refine ⟨a + (textL x).length, ?_, rem_step h rfl⟩
  have h3 := congrArg List.length h2
  unfold rem at h1 h2 h3
  rw [List.length_drop, size_len, List.length_append] at h3
  rw [rdT_U, rdU, if_pos rfl, h1, vdec_enc _ _ hn, if_pos rfl, if_neg (by simp only; omega), if_neg (by simp only; omega)]
  simp only [h2, List.take_append_of_le_length (Nat.le_refl _), List.take_length, textL, List.length_append, Nat.add_assoc]
theorem endV_fw {s : ByteArray} {a : Nat} (h : rem s a = []) : endV s a 0 = 0 := by
  have h1 := congrArg List.length h
  unfold rem at h1
  rw [List.length_drop, size_len, List.length_nil] at h1
  unfold endV
  rw [if_pos rfl, if_neg (by omega)]
theorem open_seal (b : List UInt8) : openL (sealL b) = (b, 0) := by
  have h : (sealL b).drop 4 = b := by
    unfold sealL
    rw [List.drop_append_of_le_length (by rw [le_length]; exact Nat.le_refl _), List.drop_of_length_le (by rw [le_length]; exact Nat.le_refl _), List.nil_append]
  have h4 : ¬ (sealL b).length < 4 := by
    unfold sealL
    rw [List.length_append, le_length]
    omega
  unfold openL
  rw [if_neg h4, h, if_pos rfl]
theorem venc_pos {n : Nat} (h : n < 18446744073709551616) : 1 ≤ (venc n).length := by
  have h1 := vdec_ok (l := venc n ++ []) (vdec_enc n [] h)
  exact h1.2.2.2.2
theorem rem_mk (l : List UInt8) : rem (mkS l) 0 = l := by unfold rem; rw [List.drop_zero]
theorem rem_len {s : ByteArray} {a : Nat} {l : List UInt8} (h : rem s a = l) : s.size - a = l.length := by
  have h1 := congrArg List.length h
  unfold rem at h1
  rw [List.length_drop, size_len] at h1
  exact h1
def Asc : Int → List Rc → Prop
  | _, [] => True
  | la, r :: l => okR r ∧ la ≤ r.at_ ∧ Asc r.at_ l
theorem recB_pos {r : Rc} (h : okR r) : 1 ≤ (recB r).length := by
  have := venc_pos (n := r.at_.toNat) (by have := h.2.1; omega)
  unfold recB
  simp only [List.length_append]
  omega
theorem recP_fw {s : ByteArray} : ∀ (l : List Rc) (a : Nat) (la : Int), Asc la l → a ≤ s.size → rem s a = recsB l → recP s a la = some l
  | [], a, la, _, ha, h => recP_end (by have h1 : s.size - a = 0 := rem_len h; omega)
  | r :: l, a, la, hl, ha, h => by
    obtain ⟨ho, hla, ht⟩ := hl
    have hc : recsB (r :: l) = venc r.at_.toNat ++ (textL r.tp ++ (textL r.pl ++ recsB l)) := by
      simp [recsB, recB]
    have hlen := rem_len h
    have hp := recB_pos ho
    have hl2 : (recsB (r :: l)).length = (recB r).length + (recsB l).length := by simp [recsB]
    have h2 := ho.2.1
    have h3 := ho.2.2
    have h4 := ho.1.1
    obtain ⟨b, e1, h1⟩ := rdA_fw (by omega) (h.trans hc)
    obtain ⟨c, e2, h5⟩ := rdT_fw (m := 40) (by omega) (by omega) h1
    obtain ⟨d, e3, h6⟩ := rdT_fw (m := 4000) (by omega) (by omega) h5
    have e2' : rdTp s a 0 = (r.tp, c, 0) := by unfold rdTp; rw [e1]; exact e2
    have e3' : rdPl s a 0 = (r.pl, d, 0) := by unfold rdPl; rw [e2']; exact e3
    have hn : ((r.at_.toNat : Nat) : Int) = r.at_ := Int.toNat_of_nonneg h2.1
    have hok : okN s a la := by
      refine ⟨by rw [e3'], by rw [e2']; exact ho.1, by rw [e1]; simp only; omega⟩
    have hm := rdPl_mono (s := s) (a := a) (e := 0) ha
    rw [recP_go (by omega) hok]
    rw [e3'] at hm ⊢
    rw [e1]
    simp only at hm ⊢
    rw [hn, recP_fw l d r.at_ ht hm.2.1 h6]
    unfold rdRec
    rw [e1, e2', e3']
    simp only [hn, Option.map_some]
theorem recL_fw {l : List Rc} (h : Asc 0 l) : recL (mkS (conB l)) = l := by
  obtain ⟨a, e1, h1⟩ := rdU_fw (n := 1) (by decide) (rem_mk (conB l))
  have hle := (rdU_le (s := mkS (conB l)) (a := 0) (e := 0) (Nat.zero_le _)).1
  rw [e1] at hle
  unfold recL
  rw [e1, if_pos ⟨rfl, rfl⟩, recP_fw l a 0 h hle h1]
  rfl
theorem exaL_fw {c : List UInt8} (h : c.length ≤ 1000000000) : exaL (textL (sealL c)) = (c, 0) := by
  have hs := sealL_len c
  have ht : (sealL c).length ≤ (textL (sealL c)).length := by unfold textL; rw [List.length_append]; omega
  obtain ⟨a, e1, h1⟩ := rdT_fw (m := ((textL (sealL c)).length : Nat)) (x := sealL c) (r := []) (by omega) (by omega) (by rw [rem_mk, List.append_nil])
  unfold exaL
  rw [e1]
  simp only
  rw [endV_fw h1, if_pos rfl, open_seal]
def entO (off : Nat) (x : List Rc) : En := ⟨off, (x.getD 0 default).at_.toNat, (x.getD (x.length - 1) default).at_.toNat, tal x⟩
def entsO : Nat → List (List Rc) → List En
  | _, [] => []
  | off, x :: L => entO off x :: entsO (off + (secB x).length) L
theorem entsO_len : ∀ (L : List (List Rc)) (off : Nat), (entsO off L).length = L.length
  | [], _ => rfl
  | _ :: L, off => by rw [entsO, List.length_cons, List.length_cons, entsO_len L]
theorem entsO_at : ∀ (L : List (List Rc)) (off k : Nat), k < L.length → (entsO off L).getD k default = entO (off + (secsB (L.take k)).length) (L.getD k default)
  | [], _, k, h => absurd h (Nat.not_lt_zero k)
  | x :: L, off, 0, _ => by simp [entsO, secsB]
  | x :: L, off, k + 1, h => by
    have := entsO_at L (off + (secB x).length) k (by simpa using h)
    rw [entsO, List.getD_cons_succ, this, List.take_succ_cons, List.getD_cons_succ]
    congr 1
    simp only [secsB, List.flatMap_cons, List.length_append]
    omega
theorem tlN_fw {s : ByteArray} : ∀ (U : List Tl) (a : Nat) (r : List UInt8), (∀ t ∈ U, t.1.length ≤ 40 ∧ t.2 ≤ 1099511627776) → rem s a = tlB U ++ r → ∃ a', tlN s U.length a 0 = (U, a', 0) ∧ rem s a' = r
  | [], a, r, _, h => ⟨a, rfl, by simpa [tlB] using h⟩
  | t :: U, a, r, hU, h => by
    have ht := hU t (List.mem_cons_self ..)
    have hc : tlB (t :: U) ++ r = textL t.1 ++ (venc t.2 ++ (tlB U ++ r)) := by simp [tlB]
    obtain ⟨b, e1, h1⟩ := rdT_fw (m := 40) (by omega) (by omega) (h.trans hc)
    obtain ⟨c, e2, h2⟩ := rdA_fw (by omega) h1
    obtain ⟨d, e3, h3⟩ := tlN_fw U c r (fun x hx => hU x (List.mem_cons_of_mem _ hx)) h2
    refine ⟨d, ?_, h3⟩
    rw [List.length_cons, tlN, if_pos rfl, e1]
    simp only
    rw [e2]
    simp only
    rw [e3]
def okX (x : List Rc) : Prop := 0 < x.length ∧ x.length ≤ 50000 ∧ ∀ q ∈ x, okR q
theorem okX_at {x : List Rc} (h : okX x) {k : Nat} (hk : k < x.length) : okR (x.getD k default) := h.2.2 _ (by rw [getD_at hk]; exact List.getElem_mem _)
theorem tal_ok {x : List Rc} (h : okX x) : ∀ t ∈ tal x, t.1.length ≤ 40 ∧ t.2 ≤ 1099511627776 := fun t ht => by
  obtain ⟨r, hr, e⟩ := List.mem_map.1 (((tal_inv x).2.1 t.1).1 (List.mem_map.2 ⟨t, ht, rfl⟩))
  have h1 := (h.2.2 r hr).1.1.2
  have h2 := tal_cnt ht
  have h3 := h.2.1
  exact ⟨by rw [← e]; exact h1, by omega⟩
theorem enN_fw {s : ByteArray} : ∀ (L : List (List Rc)) (off a : Nat) (r : List UInt8), (∀ x ∈ L, okX x) → off + (secsB L).length ≤ 1099511627776 → rem s a = idxB off L ++ r → ∃ a', enN s L.length a 0 = (entsO off L, a', 0) ∧ rem s a' = r
  | [], off, a, r, _, _, h => ⟨a, rfl, by simpa [idxB] using h⟩
  | x :: L, off, a, r, hL, ho, h => by
    have hx := hL x (List.mem_cons_self ..)
    have hx0 := hx.1
    have h0 := (okX_at hx hx0).2.1
    have hl := (okX_at hx (k := x.length - 1) (by omega)).2.1
    have hso : (secsB (x :: L)).length = (secB x).length + (secsB L).length := by simp [secsB]
    have hT := tal_le x
    have hxl := hx.2.1
    have hc : idxB off (x :: L) ++ r = venc off ++ (venc (x.getD 0 default).at_.toNat ++ (venc (x.getD (x.length - 1) default).at_.toNat ++ (venc (tal x).length ++ (tlB (tal x) ++ (idxB (off + (secB x).length) L ++ r))))) := by
      simp only [idxB, idxE, desB, List.append_assoc]
    obtain ⟨a1, e1, h1⟩ := rdA_fw (by omega) (h.trans hc)
    obtain ⟨a2, e2, h2⟩ := rdA_fw (by omega) h1
    obtain ⟨a3, e3, h3⟩ := rdA_fw (by omega) h2
    obtain ⟨a4, e4, h4⟩ := rdA_fw (by omega) h3
    obtain ⟨a5, e5, h5⟩ := tlN_fw (tal x) a4 _ (tal_ok hx) h4
    obtain ⟨a6, e6, h6⟩ := enN_fw L (off + (secB x).length) a5 r (fun y hy => hL y (List.mem_cons_of_mem _ hy)) (by omega) h5
    have g1 : sm1 s a 0 = (off, a1, 0) := e1
    have g2 : sm2 s a 0 = ((x.getD 0 default).at_.toNat, a2, 0) := by unfold sm2; rw [g1]; exact e2
    have g3 : sm3 s a 0 = ((x.getD (x.length - 1) default).at_.toNat, a3, 0) := by unfold sm3; rw [g2]; exact e3
    have g4 : sm4 s a 0 = ((tal x).length, a4, 0) := by unfold sm4; rw [g3]; exact e4
    have g5 : enT s a 0 = (tal x, a5, 0) := by unfold enT; rw [g4]; exact e5
    refine ⟨a6, ?_, h6⟩
    rw [List.length_cons, enN, if_pos rfl, g5]
    simp only
    rw [e6]
    simp only [rdEn, g1, g2, g3, g5, entsO, entO]
theorem ixL_fw {L : List (List Rc)} (hL : ∀ x ∈ L, okX x) (hn : L.length ≤ 10000) (ho : 5 + (secsB L).length ≤ 1099511627776) : ixL (mkS (indB L)) = (entsO 5 L, true) := by
  have hc : rem (mkS (indB L)) 0 = venc 2 ++ (venc L.length ++ (idxB 5 L ++ [])) := by rw [rem_mk, indB]; simp only [List.append_assoc, List.append_nil]
  obtain ⟨a1, e1, h1⟩ := rdU_fw (n := 2) (by decide) hc
  obtain ⟨a2, e2, h2⟩ := rdA_fw (by omega) h1
  obtain ⟨a3, e3, h3⟩ := enN_fw L 5 a2 [] hL ho h2
  unfold ixL
  rw [e1]
  simp only
  rw [e2]
  simp only
  rw [e3]
  simp only
  rw [endV_fw h3]
  simp
end Go.Proofs.Ytkjkbpnhocjenaa
namespace Go.Proofs.Ytkjkbpnhocjenaa
open Go.X
open P4
open P5
structure LOk (L : List (List Rc)) : Prop where
  ch : ∀ x ∈ L, 0 < x.length
  ok : ∀ r ∈ L.flatten, okR r
  pw : L.flatten.Pairwise fun a b => a.at_ ≤ b.at_
  n : L.flatten.length ≤ 50
theorem mem_getD {α : Type} [Inhabited α] {l : List α} {k : Nat} (h : k < l.length) : l.getD k default ∈ l := by rw [getD_at h]; exact List.getElem_mem _
theorem asc_of : ∀ {l : List Rc} {la : Int}, (∀ r ∈ l, okR r ∧ la ≤ r.at_) → (l.Pairwise fun a b => a.at_ ≤ b.at_) → Asc la l
  | [], _, _, _ => trivial
  | r :: l, la, h, hp => by
    have h1 := h r (List.mem_cons_self ..)
    have h2 := List.pairwise_cons.1 hp
    exact ⟨h1.1, h1.2, asc_of (fun q hq => ⟨(h q (List.mem_cons_of_mem _ hq)).1, h2.1 q hq⟩) h2.2⟩
theorem LOk.sub {L : List (List Rc)} {x : List Rc} (hx : x ∈ L) : x.Sublist L.flatten := List.sublist_flatten_of_mem hx
theorem LOk.okX {L : List (List Rc)} (h : LOk L) : ∀ x ∈ L, okX x := fun x hx => by
  have h1 := (LOk.sub hx).length_le
  have h2 := h.n
  exact ⟨h.ch x hx, by omega, fun q hq => h.ok q ((LOk.sub hx).subset hq)⟩
theorem LOk.asc {L : List (List Rc)} (h : LOk L) {x : List Rc} (hx : x ∈ L) : Asc 0 x :=
  asc_of (fun r hr => ⟨(h.okX x hx).2.2 r hr, ((h.okX x hx).2.2 r hr).2.1.1⟩) (h.pw.sublist (LOk.sub hx))
theorem len_flat : ∀ {L : List (List Rc)}, (∀ x ∈ L, 0 < x.length) → L.length ≤ L.flatten.length
  | [], _ => Nat.zero_le _
  | x :: L, h => by
    have h1 := len_flat fun y hy => h y (List.mem_cons_of_mem _ hy)
    have h2 := h x (List.mem_cons_self ..)
    rw [List.flatten_cons, List.length_append, List.length_cons]
    omega
theorem LOk.len {L : List (List Rc)} (h : LOk L) : L.length ≤ 50 := Nat.le_trans (len_flat h.ch) h.n
theorem secB_pos (x : List Rc) : 1 ≤ (secB x).length := by
  have := sealL_len (conB x)
  unfold secB textL
  rw [List.length_append]
  omega
theorem secsB_le : ∀ {L : List (List Rc)}, (∀ r ∈ L.flatten, okR r) → (secsB L).length ≤ 24 * L.length + 4070 * L.flatten.length
  | [], _ => by simp [secsB]
  | x :: L, h => by
    have h1 := secsB_le (L := L) fun r hr => h r (by rw [List.flatten_cons, List.mem_append]; exact .inr hr)
    have h2 := secB_len (l := x) fun r hr => h r (by rw [List.flatten_cons, List.mem_append]; exact .inl hr)
    have h3 : (secsB (x :: L)).length = (secB x).length + (secsB L).length := by simp [secsB]
    rw [h3, List.flatten_cons, List.length_append, List.length_cons]
    omega
theorem LOk.secs {L : List (List Rc)} (h : LOk L) : (secsB L).length ≤ 204700 := by
  have h1 := secsB_le h.ok
  have h2 := h.len
  have h3 := h.n
  omega
theorem secsB_take {L : List (List Rc)} {k : Nat} (h : k < L.length) : secsB (L.take (k + 1)) = secsB (L.take k) ++ secB (L.getD k default) := by
  rw [take_snocG L h, secsB_snoc]
theorem secsB_app (L M : List (List Rc)) : secsB (L ++ M) = secsB L ++ secsB M := by simp [secsB]
theorem secsB_tl (L : List (List Rc)) (k : Nat) : secsB L = secsB (L.take k) ++ secsB (L.drop k) := by rw [← secsB_app, List.take_append_drop]
theorem le8_le : ∀ k n, le8 (le k n) = n % 256 ^ k
  | 0, n => by simp [le, le8, Nat.mod_one]
  | k + 1, n => by
    rw [le, le8_cons, le8_le k, Nat.pow_succ', Nat.mod_mul, UInt8.toNat_ofNat']
    omega
def bgL (L : List (List Rc)) : Bg := ⟨bagB L, 5 + (secsB L).length, entsO 5 L⟩
theorem bagB_len (L : List (List Rc)) : (bagB L).length = 5 + (secsB L).length + (textL (sealL (indB L))).length + 13 := by
  simp only [bagB, magic, List.length_append, le_length, List.length_cons, List.length_nil]
theorem bgA_bag {L : List (List Rc)} (h : (secsB L).length ≤ 1000000000) : bgA (bagB L) = 5 + (secsB L).length := by
  have hl := bagB_len L
  have h1 : (bagB L).drop ((bagB L).length - 13) = le 8 (5 + (secsB L).length) ++ magic := by
    have e : bagB L = (magic ++ secsB L ++ textL (sealL (indB L))) ++ (le 8 (5 + (secsB L).length) ++ magic) := by simp only [bagB, List.append_assoc]
    conv => lhs; arg 2; rw [e]
    exact List.drop_left' (by rw [hl]; simp only [magic, List.length_append, List.length_cons, List.length_nil]; omega)
  unfold bgA
  rw [h1, List.take_left' (le_length 8 _), le8_le]
  omega
theorem bgX_bag {L : List (List Rc)} (h : (secsB L).length ≤ 1000000000) (hi : (indB L).length ≤ 1000000000) : bgX (bagB L) = (indB L, 0) := by
  have hl := bagB_len L
  have e : bagB L = (magic ++ secsB L ++ textL (sealL (indB L))) ++ (le 8 (5 + (secsB L).length) ++ magic) := by simp only [bagB, List.append_assoc]
  have h1 : (bagB L).take ((bagB L).length - 13) = magic ++ secsB L ++ textL (sealL (indB L)) := by
    conv => lhs; arg 2; rw [e]
    exact List.take_left' (by rw [hl]; simp only [magic, List.length_append, List.length_cons, List.length_nil]; omega)
  unfold bgX
  rw [h1, bgA_bag h, List.drop_left' (by simp only [magic, List.length_append, List.length_cons, List.length_nil]), exaL_fw hi]
theorem tal_okTs {x : List Rc} (h : okX x) : okTs (tal x) ∧ 1 ≤ (tal x).length := by
  obtain ⟨h1, h2, h3⟩ := tal_inv x
  have hm : (x.getD 0 default).tp ∈ (tal x).map Prod.fst := (h2 _).2 (List.mem_map.2 ⟨_, by rw [getD_at h.1]; exact List.getElem_mem _, rfl⟩)
  refine ⟨fun i hi => ⟨?_, fun h0 => ?_, ?_⟩, by have := List.length_pos_of_mem hm; rw [List.length_map] at this; omega⟩
  · have ht : (tal x).getD i default ∈ tal x := by rw [getD_at hi]; exact List.getElem_mem _
    obtain ⟨r, hr, e⟩ := List.mem_map.1 ((h2 _).1 (List.mem_map.2 ⟨_, ht, rfl⟩))
    rw [← e]
    exact (h.2.2 r hr).1
  · unfold SrtT at h1
    rw [List.pairwise_map, List.pairwise_iff_getElem] at h1
    have := h1 (i - 1) i (by omega) hi (by omega)
    rw [getD_at (show i - 1 < (tal x).length by omega), getD_at hi]
    exact this
  · exact tal_one _ (by rw [getD_at hi]; exact List.getElem_mem _)
theorem LOk.le {L : List (List Rc)} (h : LOk L) {i j : Nat} (hij : i < j) (hj : j < L.length) {x y : Rc} (hx : x ∈ L.getD i default) (hy : y ∈ L.getD j default) : x.at_ ≤ y.at_ := by
  have h1 := (List.pairwise_flatten.1 h.pw).2
  rw [List.pairwise_iff_getElem] at h1
  have := h1 i j (by omega) hj hij
  rw [getD_at (by omega)] at hx
  rw [getD_at hj] at hy
  exact this x hx y hy
theorem LOk.at {L : List (List Rc)} (h : LOk L) {i : Nat} (hi : i < L.length) : Go.Proofs.Ytkjkbpnhocjenaa.okX (L.getD i default) ∧ (∀ a b, a ≤ b → b < (L.getD i default).length → ((L.getD i default).getD a default).at_ ≤ ((L.getD i default).getD b default).at_) ∧ Asc 0 (L.getD i default) := by
  have hm : L.getD i default ∈ L := by rw [getD_at hi]; exact List.getElem_mem _
  refine ⟨h.okX _ hm, fun a b hab hb => ?_, h.asc hm⟩
  have hp := h.pw.sublist (LOk.sub hm)
  rw [List.pairwise_iff_getElem] at hp
  rcases Nat.lt_or_ge a b with q | q
  · rw [getD_at (by omega), getD_at hb]
    exact hp a b (by omega) hb q
  · obtain rfl : a = b := by omega
    exact Int.le_refl _
theorem LOk.ord {L : List (List Rc)} (h : LOk L) : ordE (entsO 5 L) (5 + (secsB L).length) := by
  have hel := entsO_len L 5
  refine ⟨fun h0 => ?_, fun i hi => ?_⟩
  · rw [hel] at h0
    have : L = [] := List.length_eq_zero_iff.1 h0
    subst this
    simp [secsB]
  · rw [hel] at hi
    obtain ⟨hx, hasc, _⟩ := h.at hi
    have hT := tal_okTs hx
    have hx0 := hx.1
    have n0 := (okX_at hx hx0).2.1.1
    have nl := (okX_at hx (k := (L.getD i default).length - 1) (by omega)).2.1.1
    have hfl := hasc 0 ((L.getD i default).length - 1) (by omega) (by omega)
    have hs1 := congrArg List.length (secsB_tl L (i + 1))
    rw [secsB_take hi, List.length_append, List.length_append] at hs1
    have hp := secB_pos (L.getD i default)
    have hprev : 0 < i → (secsB (L.take (i - 1))).length < (secsB (L.take i)).length := fun h0 => by
      have := congrArg List.length (secsB_take (L := L) (k := i - 1) (by omega))
      rw [show i - 1 + 1 = i by omega, List.length_append] at this
      have := secB_pos (L.getD (i - 1) default)
      omega
    have hpl : 0 < i → ((L.getD (i - 1) default).getD ((L.getD (i - 1) default).length - 1) default).at_ ≤ ((L.getD i default).getD 0 default).at_ := fun h0 => by
      have hy := (h.at (i := i - 1) (by omega)).1.1
      exact h.le (i := i - 1) (j := i) (by omega) hi (mem_getD (by omega)) (mem_getD hx0)
    unfold okE1
    rw [entsO_at L 5 i hi]
    refine ⟨⟨fun h0 => ?_, fun h0 => ?_, ?_⟩, ⟨fun h0 => ?_, ?_, hT.2⟩, hT.1⟩
    · subst h0
      simp [entO, secsB]
    · rw [entsO_at L 5 (i - 1) (by omega)]
      simp only [entO]
      have := hprev h0
      omega
    · simp only [entO]
      omega
    · rw [entsO_at L 5 (i - 1) (by omega)]
      simp only [entO]
      have := hpl h0
      omega
    · simp only [entO]
      omega
theorem LOk.ind {L : List (List Rc)} (h : LOk L) : (indB L).length ≤ 1000000000 := by
  have h1 := inB_len (n := L.length) (L := L) fun x hx => (h.okX x hx).2
  have h2 := h.len
  have h3 : inB L.length L = indB L := rfl
  rw [h3] at h1
  omega
theorem bag_open {L : List (List Rc)} (h : LOk L) : bgE (bagB L) = 0 ∧ bgO (bagB L) = bgL L := by
  have hs := h.secs
  have hl := bagB_len L
  have hA := bgA_bag (L := L) (by omega)
  have hX := bgX_bag (L := L) (by omega) h.ind
  have hI := ixL_fw h.okX (by have := h.len; omega) (by omega)
  have h5 : (bagB L).take 5 = magic := by
    have e : bagB L = magic ++ (secsB L ++ (textL (sealL (indB L)) ++ (le 8 (5 + (secsB L).length) ++ magic))) := by simp only [bagB, List.append_assoc]
    rw [e]
    exact List.take_left' rfl
  have h6 : (bagB L).drop ((bagB L).length - 5) = magic := by
    have e : bagB L = (magic ++ secsB L ++ textL (sealL (indB L)) ++ le 8 (5 + (secsB L).length)) ++ magic := rfl
    conv => lhs; arg 2; rw [e]
    exact List.drop_left' (by rw [hl]; simp only [magic, List.length_append, List.length_cons, List.length_nil, le_length]; omega)
  refine ⟨?_, ?_⟩
  · unfold bgE
    rw [if_neg (by omega), if_neg (fun q => q ⟨h5, h6, by omega, by omega⟩), hX, if_neg (fun q => q rfl), hI, hA, if_pos ⟨rfl, h.ord⟩]
  · unfold bgO bgL
    rw [hA, hX, hI]
theorem endE_bag {L : List (List Rc)} {k : Nat} (hk : k < L.length) : endE (bgL L) k = 5 + (secsB (L.take (k + 1))).length := by
  have hel := entsO_len L 5
  unfold endE
  have e : (bgL L).L = entsO 5 L := rfl
  have e2 : (bgL L).ix = 5 + (secsB L).length := rfl
  rw [e, hel, e2]
  split
  · rename_i h1
    rw [entsO_at L 5 (k + 1) h1]
    rfl
  · rw [show k + 1 = L.length by omega, List.take_length]
theorem chX_bag {L : List (List Rc)} (h : LOk L) {k : Nat} (hk : k < L.length) : chX (bgL L) k = (conB (L.getD k default), 0) := by
  have hE := endE_bag hk
  have hx := (h.at hk).1
  have hcl := conB_len hx.2.2
  have hxl := hx.2.1
  have hst := secsB_take hk
  have e0 : (bgL L).s = bagB L := rfl
  have e1 : (bgL L).L.getD k default = entO (5 + (secsB (L.take k)).length) (L.getD k default) := entsO_at L 5 k hk
  have e : bagB L = (magic ++ secsB (L.take (k + 1))) ++ (secsB (L.drop (k + 1)) ++ (textL (sealL (indB L)) ++ (le 8 (5 + (secsB L).length) ++ magic))) := by
    unfold bagB
    conv => lhs; rw [show magic ++ secsB L = magic ++ secsB (L.take (k + 1)) ++ secsB (L.drop (k + 1)) by rw [List.append_assoc, ← secsB_tl]]
    simp only [List.append_assoc]
  unfold chX
  rw [hE, e0, e1]
  have ht : (bagB L).take (5 + (secsB (L.take (k + 1))).length) = magic ++ secsB (L.take (k + 1)) := by
    conv => lhs; arg 2; rw [e]
    exact List.take_left' (by simp only [magic, List.length_append, List.length_cons, List.length_nil])
  rw [ht, hst, ← List.append_assoc]
  have hd : (magic ++ secsB (L.take k) ++ secB (L.getD k default)).drop (entO (5 + (secsB (L.take k)).length) (L.getD k default)).off = secB (L.getD k default) := List.drop_left' (by simp only [entO, magic, List.length_append, List.length_cons, List.length_nil])
  rw [hd]
  exact exaL_fw (by omega)
theorem ch_bag {L : List (List Rc)} (h : LOk L) {k : Nat} (hk : k < L.length) : chE (bgL L) k = 0 ∧ chL (bgL L) k = L.getD k default := by
  obtain ⟨hx, _, ha⟩ := h.at hk
  have hx0 := hx.1
  have n0 := (okX_at hx hx0).2.1.1
  have nl := (okX_at hx (k := (L.getD k default).length - 1) (by omega)).2.1.1
  obtain ⟨h1, h2⟩ := chE_eq (chX_bag h hk) (recL_fw ha)
  have e1 : (bgL L).L.getD k default = entO (5 + (secsB (L.take k)).length) (L.getD k default) := entsO_at L 5 k hk
  have h3 : chE (bgL L) k = 0 := by
    rw [h1, e1, if_neg (fun q => q rfl), if_pos]
    exact ⟨hx0, (Int.toNat_of_nonneg n0).symm, (Int.toNat_of_nonneg nl).symm, rfl⟩
  exact ⟨h3, by rw [h2, if_pos h3]⟩
end Go.Proofs.Ytkjkbpnhocjenaa
namespace Go.Proofs.Ytkjkbpnhocjenaa
open Go.X
open P4
open P5
theorem drop_flat {L : List (List Rc)} {k : Nat} (h : k < L.length) : (L.drop k).flatten = L.getD k default ++ (L.drop (k + 1)).flatten := by
  rw [drop_consG L h, List.flatten_cons]
theorem fi_le {L : List (List Rc)} (h : LOk L) {k : Nat} (hk : k < L.length) {r : Rc} (hr : r ∈ L.getD k default) :
    (((L.getD k default).getD 0 default).at_.toNat : Int) ≤ r.at_ ∧ r.at_ ≤ (((L.getD k default).getD ((L.getD k default).length - 1) default).at_.toNat : Int) := by
  obtain ⟨hx, ha, _⟩ := h.at hk
  obtain ⟨i, hi, e⟩ := List.mem_iff_getElem.1 hr
  have h1 := ha 0 i (by omega) hi
  have h2 := ha i ((L.getD k default).length - 1) (by omega) (by omega)
  have n0 := (okX_at hx hx.1).2.1.1
  rw [getD_at hi, e] at h1 h2
  omega
theorem skip_bag {L : List (List Rc)} (h : LOk L) {k : Nat} (hk : k < L.length) {t : List UInt8} {fr un : Int} (hs : skipE ((bgL L).L.getD k default) t fr un) : selR t fr un (L.getD k default) = [] := by
  rw [show (bgL L).L.getD k default = entO (5 + (secsB (L.take k)).length) (L.getD k default) from entsO_at L 5 k hk] at hs
  unfold selR
  rw [List.filter_eq_nil_iff]
  intro r hr hq
  have hq := of_decide_eq_true hq
  have hf := fi_le h hk hr
  rcases hs with q | q | q
  · refine q (hq.1.imp id fun e => ?_)
    exact ((tal_inv _).2.1 t).2 (List.mem_map.2 ⟨r, hr, e⟩)
  · simp only [entO] at q
    omega
  · simp only [entO] at q
    omega
theorem selR_app (t : List UInt8) (fr un : Int) (l m : List Rc) : selR t fr un (l ++ m) = selR t fr un l ++ selR t fr un m := List.filter_append ..
theorem rdB_bag {L : List (List Rc)} (h : LOk L) (t : List UInt8) (fr un : Int) : ∀ n k, k + n = L.length → rdB (bgL L) t fr un n k = (selR t fr un (L.drop k).flatten, 0)
  | 0, k, hk => by rw [List.drop_of_length_le (by omega)]; rfl
  | n + 1, k, hk => by
    have ih := rdB_bag h t fr un n (k + 1) (by omega)
    obtain ⟨h1, h2⟩ := ch_bag h (k := k) (by omega)
    rw [drop_flat (by omega), selR_app]
    unfold rdB
    by_cases hs : skipE ((bgL L).L.getD k default) t fr un
    · rw [if_pos hs, ih, skip_bag h (by omega) hs, List.nil_append]
    · rw [if_neg hs, if_neg (fun q => q h1), ih, if_pos rfl, h2]
theorem read_bag {L : List (List Rc)} (h : LOk L) (t : List UInt8) (fr un : Int) : readB (bgL L) t fr un = (selR t fr un L.flatten, 0) := by
  unfold readB
  rw [rdB_bag h t fr un _ 0 (by rw [Nat.zero_add]; exact entsO_len L 5), List.drop_zero]
theorem nxF_step {b : Bg} {a z : Int} {n k : Nat} (h : ((b.L.getD k default).la : Int) = z) : nxF b a (n + 1) k = if z < a then nxF b a n (k + 1) else (chL b k).find? fun r => decide (a ≤ r.at_) := by
  subst h
  rfl
theorem nxF_bag {L : List (List Rc)} (h : LOk L) (a : Int) : ∀ n k, k + n = L.length → nxF (bgL L) a n k = (L.drop k).flatten.find? fun r => decide (a ≤ r.at_)
  | 0, k, hk => by rw [List.drop_of_length_le (by omega)]; rfl
  | n + 1, k, hk => by
    have hkl : k < L.length := by omega
    have ih := nxF_bag h a n (k + 1) (by omega)
    obtain ⟨h1, h2⟩ := ch_bag h hkl
    obtain ⟨hx, _, _⟩ := h.at hkl
    have hx0 := hx.1
    rw [drop_flat hkl, List.find?_append]
    have hz : (((bgL L).L.getD k default).la : Int) = ((((L.getD k default).getD ((L.getD k default).length - 1) default).at_.toNat : Nat) : Int) := by
      rw [show (bgL L).L.getD k default = entO (5 + (secsB (L.take k)).length) (L.getD k default) from entsO_at L 5 k hkl]
      rfl
    rw [nxF_step hz, h2]
    by_cases hs : ((((L.getD k default).getD ((L.getD k default).length - 1) default).at_.toNat : Nat) : Int) < a
    · rw [if_pos hs, ih, (List.find?_eq_none (l := L.getD k default)).2]
      · rfl
      · intro r hr hq
        have hq := of_decide_eq_true hq
        have := (fi_le h hkl hr).2
        omega
    · rw [if_neg hs]
      have nl := (okX_at hx (k := (L.getD k default).length - 1) (by omega)).2.1.1
      cases hf : (L.getD k default).find? fun r => decide (a ≤ r.at_) with
      | some r => rfl
      | none =>
        have := List.find?_eq_none.1 hf _ (mem_getD (show (L.getD k default).length - 1 < _ by omega))
        exact absurd (decide_eq_true (by omega)) this
theorem next_bag {L : List (List Rc)} (h : LOk L) (a : Int) : nxB (bgL L) a = L.flatten.find? fun r => decide (a ≤ r.at_) := by
  rw [nxB_eq, nxF_bag h a _ 0 (by rw [Nat.zero_add]; exact entsO_len L 5), List.drop_zero]
def cntQ (l : List Rc) (t : List UInt8) : Nat := (l.filter fun r => decide (t = [] ∨ r.tp = t)).length
theorem cntQ_app (l m : List Rc) (t : List UInt8) : cntQ (l ++ m) t = cntQ l t + cntQ m t := by simp [cntQ]
theorem flen1 (p : Rc → Bool) (r : Rc) : ([r].filter p).length = if p r = true then 1 else 0 := by
  rw [List.filter_cons]
  split <;> rfl
theorem cntF_tal (x : List Rc) (t : List UInt8) : cntF (tal x) t = cntQ x t := by
  suffices ∀ k, k ≤ x.length → cntF (tal (x.take k)) t = cntQ (x.take k) t by
    have := this x.length (Nat.le_refl _)
    rwa [List.take_length] at this
  intro k
  induction k with
  | zero => intro _; simp [tal, cntF, cntQ]
  | succ k ih =>
    intro hk
    rw [take_snocG x (by omega), tal_snoc, cntF_talA, ih (by omega), cntQ_app]
    congr 1
    unfold cntQ
    rw [flen1]
    by_cases q : t = [] ∨ (x.getD k default).tp = t
    · rw [if_pos q, if_pos (decide_eq_true q)]
    · rw [if_neg q, if_neg (fun e => q (of_decide_eq_true e))]
theorem flat_ents : ∀ (L : List (List Rc)) (off : Nat), (entsO off L).flatMap En.T = L.flatMap tal
  | [], _ => rfl
  | x :: L, off => by rw [entsO, List.flatMap_cons, List.flatMap_cons, flat_ents L]; rfl
theorem cnt_bag (L : List (List Rc)) (t : List UInt8) : cntF (flatT (bgL L)) t = cntQ L.flatten t := by
  have h0 : flatT (bgL L) = L.flatMap tal := flat_ents L 5
  rw [h0]
  clear h0
  induction L with
  | nil => rfl
  | cons x L ih => rw [List.flatMap_cons, cntF_app, ih, cntF_tal, List.flatten_cons, cntQ_app]
theorem top_bag (L : List (List Rc)) : (topB (bgL L)).Pairwise (· < ·) ∧ ∀ t, t ∈ topB (bgL L) ↔ t ∈ L.flatten.map Rc.tp := by
  have h := foldT_inv (flatT (bgL L))
  refine ⟨h.1, fun t => (h.2 t).trans ?_⟩
  have h0 : flatT (bgL L) = L.flatMap tal := flat_ents L 5
  rw [h0]
  simp only [List.map_flatMap, List.mem_flatMap, List.map_flatten, List.mem_flatten, List.mem_map]
  constructor
  · rintro ⟨x, hx, ht⟩
    obtain ⟨r, hr, e⟩ := List.mem_map.1 (((tal_inv x).2.1 t).1 (by simpa using ht))
    exact ⟨x.map Rc.tp, ⟨x, hx, rfl⟩, List.mem_map.2 ⟨r, hr, e⟩⟩
  · rintro ⟨y, ⟨x, hx, rfl⟩, ht⟩
    refine ⟨x, hx, ?_⟩
    have := ((tal_inv x).2.1 t).2 ht
    simpa using this
theorem flat_first : ∀ {L : List (List Rc)}, (∀ x ∈ L, 0 < x.length) → L.flatten.getD 0 default = (L.getD 0 default).getD 0 default
  | [], _ => rfl
  | x :: L, h => by
    have hx := h x (List.mem_cons_self ..)
    rw [List.flatten_cons]
    simp only [List.getD]
    rw [List.getElem?_append_left hx]
    rfl
theorem flat_last {L : List (List Rc)} (h : ∀ x ∈ L, 0 < x.length) (hL : 0 < L.length) : 0 < L.flatten.length ∧ L.flatten.getD (L.flatten.length - 1) default = (L.getD (L.length - 1) default).getD ((L.getD (L.length - 1) default).length - 1) default := by
  have h1 := take_snocG L (k := L.length - 1) (by omega)
  rw [show L.length - 1 + 1 = L.length by omega, List.take_length] at h1
  have hx := h _ (mem_getD (show L.length - 1 < L.length by omega))
  generalize L.getD (L.length - 1) default = x at *
  generalize L.take (L.length - 1) = M at *
  have hf : L.flatten = M.flatten ++ x := by rw [h1, List.flatten_append]; simp
  rw [hf, List.length_append]
  refine ⟨by omega, ?_⟩
  simp only [List.getD]
  rw [List.getElem?_append_right (by omega)]
  congr 2
  omega
def spnL (l : List Rc) : T := if l.length = 0 then .t [.c (.i .i64 0), .c (.i .i64 0), .c .ff] else .t [.c (.i .i64 (l.getD 0 default).at_), .c (.i .i64 (l.getD (l.length - 1) default).at_), .c .tt]
theorem span_bag {L : List (List Rc)} (h : LOk L) : spnB (bgL L) = spnL L.flatten := by
  have hel : (bgL L).L.length = L.length := entsO_len L 5
  unfold spnB spnL
  rw [hel]
  rcases Nat.eq_zero_or_pos L.length with h0 | h0
  · have : L = [] := List.length_eq_zero_iff.1 h0
    subst this
    rfl
  · have hl := flat_last h.ch h0
    rw [if_neg (by omega), if_neg (by omega), hl.2, flat_first h.ch, show (bgL L).L.getD 0 default = entO (5 + (secsB (L.take 0)).length) (L.getD 0 default) from entsO_at L 5 0 h0,
      show (bgL L).L.getD (L.length - 1) default = entO (5 + (secsB (L.take (L.length - 1))).length) (L.getD (L.length - 1) default) from entsO_at L 5 (L.length - 1) (by omega)]
    obtain ⟨hx, _, _⟩ := h.at h0
    obtain ⟨hy, _, _⟩ := h.at (i := L.length - 1) (by omega)
    have n0 := (okX_at hx hx.1).2.1.1
    have nl := (okX_at hy (k := (L.getD (L.length - 1) default).length - 1) (by have := hy.1; omega)).2.1.1
    simp only [entO, Int.toNat_of_nonneg n0, Int.toNat_of_nonneg nl]
end Go.Proofs.Ytkjkbpnhocjenaa
namespace Go.Proofs.Ytkjkbpnhocjenaa
open Go.X
open P4
open P5
theorem addE_0 {w : Wr} {r : Rc} : addE w r = 0 ↔ w.cl = false ∧ okR r ∧ w.la ≤ r.at_ ∧ w.ad < 4096 := by
  unfold addE okR
  by_cases h1 : w.cl = true
  · rw [if_pos h1]; simp [h1]
  rw [if_neg h1]
  by_cases h2 : isT r.tp
  · rw [if_neg (fun q => q h2)]
    by_cases h3 : r.at_ < 0 ∨ 1099511627776 < r.at_
    · rw [if_pos h3]
      exact ⟨fun q => absurd q (by decide), fun q => by omega⟩
    · rw [if_neg h3]
      by_cases h4 : 4000 < r.pl.length
      · rw [if_pos h4]
        exact ⟨fun q => absurd q (by decide), fun q => by omega⟩
      · rw [if_neg h4]
        by_cases h5 : r.at_ < w.la
        · rw [if_pos h5]
          exact ⟨fun q => absurd q (by decide), fun q => by omega⟩
        · rw [if_neg h5]
          by_cases h6 : 4096 ≤ w.ad
          · rw [if_pos h6]
            exact ⟨fun q => absurd q (by decide), fun q => by omega⟩
          · rw [if_neg h6]
            exact ⟨fun _ => ⟨by simpa using h1, ⟨h2, by omega, by omega⟩, by omega, by omega⟩, fun _ => rfl⟩
  · rw [if_pos h2]
    exact ⟨fun q => absurd q (by decide), fun q => absurd q.2.1.1 h2⟩
structure WI (w : Wr) (A : List Rc) : Prop where
  cl : w.cl = false
  fl : w.L.flatten = A
  ch : ∀ x ∈ w.L, 0 < x.length
  ok : ∀ r ∈ A, okR r
  pw : A.Pairwise fun a b => a.at_ ≤ b.at_
  la : w.la = (lastR w.L).at_
  lw : w.la = 0 ∨ ∃ r ∈ A, w.la = r.at_
  tp : ∀ r ∈ A, r.at_ ≤ w.la
  ad : w.ad = A.length
theorem WI.new (n : Int) : WI (newW n) [] :=
  ⟨rfl, rfl, fun x hx => (by cases hx), fun r hr => (by cases hr), List.Pairwise.nil, rfl, .inl rfl, fun r hr => (by cases hr), rfl⟩
theorem set_last {L : List (List Rc)} (h : 0 < L.length) (y : List Rc) : L.set (L.length - 1) y = L.take (L.length - 1) ++ [y] := by
  apply List.ext_getElem
  · rw [List.length_set, List.length_append, List.length_take, List.length_singleton]; omega
  · intro i h1 h2
    rw [List.length_set] at h1
    rw [List.getElem_set, List.getElem_append]
    split
    · subst_vars
      rw [dif_neg (by rw [List.length_take]; omega)]
      simp
    · rw [dif_pos (by rw [List.length_take]; omega), List.getElem_take]
theorem put_flat (n : Int) (L : List (List Rc)) (r : Rc) : (putR n L r).flatten = L.flatten ++ [r] := by
  unfold putR
  split
  · rename_i h
    have h0 : 0 < L.length := h.1
    rw [set_last h0, List.flatten_append]
    conv => rhs; rw [← List.take_append_drop (L.length - 1) L, drop_consG L (show L.length - 1 < L.length by omega), List.drop_of_length_le (show L.length ≤ L.length - 1 + 1 by omega), List.flatten_append]
    simp
  · simp
theorem put_ch {n : Int} {L : List (List Rc)} {r : Rc} (h : ∀ x ∈ L, 0 < x.length) : ∀ x ∈ putR n L r, 0 < x.length := fun x hx => by
  unfold putR at hx
  split at hx
  · rename_i h0
    rw [set_last h0.1] at hx
    rcases List.mem_append.1 hx with q | q
    · exact h x (List.mem_of_mem_take q)
    · rw [List.mem_singleton.1 q]; simp
  · rcases List.mem_append.1 hx with q | q
    · exact h x q
    · rw [List.mem_singleton.1 q]; simp
theorem put_last (n : Int) (L : List (List Rc)) (r : Rc) : lastR (putR n L r) = r := by
  have key : ∀ (M : List (List Rc)) (y : List Rc), lastR (M ++ [y ++ [r]]) = r := fun M y => by
    unfold lastR
    rw [if_pos (by simp)]
    have e : (M ++ [y ++ [r]]).getD ((M ++ [y ++ [r]]).length - 1) default = y ++ [r] := by simp
    rw [e]
    simp
  unfold putR
  split
  · rename_i h
    rw [set_last h.1]
    exact key _ _
  · exact key L []
theorem WI.add {w : Wr} {A : List Rc} {r : Rc} (h : WI w A) (h0 : addE w r = 0) : WI (addW w r) (A ++ [r]) := by
  obtain ⟨_, ho, hla, had⟩ := addE_0.1 h0
  unfold addW
  rw [if_pos h0]
  refine ⟨h.cl, ?_, put_ch h.ch, fun q hq => ?_, ?_, ?_, .inr ⟨r, by simp, rfl⟩, fun q hq => ?_, ?_⟩
  · rw [put_flat, h.fl]
  · rcases List.mem_append.1 hq with q1 | q1
    · exact h.ok q q1
    · rw [List.mem_singleton.1 q1]; exact ho
  · refine List.pairwise_append.2 ⟨h.pw, List.pairwise_singleton _ _, fun a ha b hb => ?_⟩
    rw [List.mem_singleton.1 hb]
    have := h.tp a ha
    omega
  · simp only [put_last]
  · rcases List.mem_append.1 hq with q1 | q1
    · have := h.tp q q1
      simp only
      omega
    · rw [List.mem_singleton.1 q1]
      exact Int.le_refl _
  · simp only [h.ad, List.length_append, List.length_singleton]
theorem WI.lok {w : Wr} {A : List Rc} (h : WI w A) (hn : A.length ≤ 50) : LOk w.L :=
  ⟨h.ch, by rw [h.fl]; exact h.ok, by rw [h.fl]; exact h.pw, by rw [h.fl]; exact hn⟩
structure AOk (A : List Rc) : Prop where
  ok : ∀ r ∈ A, okR r
  pw : A.Pairwise fun a b => a.at_ ≤ b.at_
  n : A.length ≤ 50
def wrA (n : Int) (A : List Rc) : Wr := A.foldl addW (newW n)
theorem wrA_snoc (n : Int) (l : List Rc) (r : Rc) : wrA n (l ++ [r]) = addW (wrA n l) r := by simp [wrA]
theorem AOk.run {A : List Rc} (h : AOk A) (n : Int) : ∀ k, k ≤ A.length → WI (wrA n (A.take k)) (A.take k) ∧ (k < A.length → addE (wrA n (A.take k)) (A.getD k default) = 0) := by
  have nx : ∀ k, k < A.length → WI (wrA n (A.take k)) (A.take k) → addE (wrA n (A.take k)) (A.getD k default) = 0 := fun k hk hw => by
    have ho := h.ok _ (mem_getD hk)
    refine addE_0.2 ⟨hw.cl, ho, ?_, by rw [hw.ad, List.length_take]; have := h.n; omega⟩
    rcases hw.lw with q | ⟨r, hr, q⟩
    · rw [q]; exact ho.2.1.1
    · rw [q]
      obtain ⟨i, hi, e⟩ := List.mem_iff_getElem.1 hr
      rw [List.length_take] at hi
      have hp := List.pairwise_iff_getElem.1 h.pw i k (by omega) hk (by omega)
      rw [getD_at hk, ← e, List.getElem_take]
      exact hp
  intro k
  induction k with
  | zero => intro _; exact ⟨WI.new n, fun hk => nx 0 hk (WI.new n)⟩
  | succ k ih =>
    intro hk
    obtain ⟨h1, h2⟩ := ih (by omega)
    have h3 : WI (wrA n (A.take (k + 1))) (A.take (k + 1)) := by
      rw [take_snocG A (by omega), wrA_snoc]
      exact h1.add (h2 (by omega))
    exact ⟨h3, fun hq => nx (k + 1) hq h3⟩
theorem AOk.wr {A : List Rc} (h : AOk A) (n : Int) : WI (wrA n A) A := by
  have := (h.run n A.length (Nat.le_refl _)).1
  rwa [List.take_length] at this
def madeB (n : Int) (A : List Rc) : List UInt8 := bagB (wrA n A).L
theorem AOk.lok {A : List Rc} (h : AOk A) (n : Int) : LOk (wrA n A).L := (h.wr n).lok h.n
theorem made_len {A : List Rc} (h : AOk A) (n : Int) : (madeB n A).length ≤ 400000 := by
  have hk := h.lok n
  have hl := bagB_len (wrA n A).L
  have h1 := hk.secs
  have h2 := hk.len
  have h4 : (indB (wrA n A).L).length ≤ 20 + 40 * (wrA n A).L.length + 60 * (wrA n A).L.flatten.length := by
    have key : ∀ (M : List (List Rc)) (off : Nat), (∀ r ∈ M.flatten, okR r) → (idxB off M).length ≤ 40 * M.length + 60 * M.flatten.length := by
      intro M
      induction M with
      | nil => intro off _; simp [idxB]
      | cons x M ih =>
        intro off hM
        have g1 := ih (off + (secB x).length) fun r hr => hM r (by rw [List.flatten_cons, List.mem_append]; exact .inr hr)
        have g2 := desB_len (off := off) (fi := (x.getD 0 default).at_.toNat) (la := (x.getD (x.length - 1) default).at_.toNat) (T := tal x) fun t ht => by
          obtain ⟨r, hr, e⟩ := List.mem_map.1 (((tal_inv x).2.1 t.1).1 (List.mem_map.2 ⟨t, ht, rfl⟩))
          rw [← e]; exact (hM r (by rw [List.flatten_cons, List.mem_append]; exact .inl hr)).1.1.2
        have g3 := tal_le x
        rw [List.flatten_cons, List.length_append, List.length_cons, idxB, List.length_append]
        unfold idxE
        omega
    have g := key (wrA n A).L 5 hk.ok
    have v1 := venc_le 2
    have v2 := venc_le (wrA n A).L.length
    unfold indB
    rw [List.length_append, List.length_append]
    omega
  have h5 := sealL_len (indB (wrA n A).L)
  have h6 := textL_len (sealL (indB (wrA n A).L))
  have h7 := hk.n
  unfold madeB
  omega
theorem made_open {A : List Rc} (h : AOk A) (n : Int) : bgE (madeB n A) = 0 ∧ bgO (madeB n A) = bgL (wrA n A).L ∧ BOk (bgL (wrA n A).L) := by
  obtain ⟨h1, h2⟩ := bag_open (h.lok n)
  exact ⟨h1, h2, by rw [← h2]; exact BOk.of h1 (made_len h n)⟩
end Go.Proofs.Ytkjkbpnhocjenaa
namespace Go.Proofs.Ytkjkbpnhocjenaa
open Go.X
set_option linter.unusedSimpArgs false
set_option linter.unusedVariables false
open P4
open P5
theorem take_eq {α : Type} [Inhabited α] {l m : List α} {i : Nat} (h : l.take i = m.take i) (hi : i < l.length) (hj : i < m.length) (e : l.getD i default = m.getD i default) : l.take (i + 1) = m.take (i + 1) := by
  rw [take_snocG l hi, take_snocG m hj, h, e]
set_option maxRecDepth 10000 in
theorem ctexts (w w2 : Bool) (l m : List (List UInt8)) (c d : Nat) (hl : l.length ≤ 1000000000) :
    Ctr Try.prog 25 [.c (.sl 0 0 1 0 l.length c), .c (.sl 1 0 1 0 m.length d)] [.one (stR w l c), .one (stR w2 m d)]
      fun v h => v = .c (.b (decide (l = m))) ∧ h = [.one (stR w l c), .one (stR w2 m d)] := by
  refine Ctr.mk' tbv mixed Try.func25 rfl rfl rfl (fun _ _ => by kernel_rfl) (by kernel_rfl) (by rfl) (by rfl) (by (repeat' first | refine And.intro ?_ ?_ | exact xeC | fail)) ?_
  repeat' (first | (fail_if_success (with_reducible refine xstp ?_)); first | ((with_reducible refine And.intro (fun (hb : _ = true) => ?_) (fun (hb : _ = false) => ?_)) <;> replace hb := xnC hb <;> (try first | exact xfC | exact bff hb (by assumption) | exact bff (by assumption) hb)) | (with_reducible refine Both.mk ?_ ?_) | ((with_reducible refine And.intro ?_ ?_); focus exact xoC) | ((with_reducible refine Or.inl ⟨?_, ?_, ?_⟩); (focus rfl); focus exact xaC) | ((with_reducible refine xwB ?_ ?_); focus exact xaC) | ((with_reducible refine xwC ?_ ?_); focus exact xaC) | ((with_reducible refine xwD ?_ ?_); focus exact xaC) | ((with_reducible refine xwE ?_ ?_); focus exact xaC) | (with_reducible intro hc; (try simp only [capsP, and_true] at hc); (try exact xfC)) | ((fail_if_success (with_reducible first | refine xgon ?_ | intro _)); (conv => whnf); (fail_if_success (fail_if_success (with_reducible first | refine xstp ?_ | refine Both.mk ?_ ?_ | refine xgon ?_ | intro _)))))
  · rw [decide_eq_false (p := l = m) (fun e => hb (by rw [e]))]
    refine FinK.mk ⟨[0, 1], _, _, ⟨rfl, rfl⟩, ?_⟩
    (repeat' first | refine And.intro ?_ ?_ | exact xeC | fail)
  have hlm : l.length = m.length := by omega
  refine LoopK.mk' {i : Nat // i ≤ l.length ∧ l.take i = m.take i}
    (fun ⟨i, _⟩ => ⟨[(0, .c (.sl 0 0 1 0 l.length c)), (1, .c (.sl 1 0 1 0 m.length d)), (5, .c (.i .i64 (i : Nat)))], [.one (stR w l c), .one (stR w2 m d)]⟩) (fun p => l.length - p.1)
    ⟨⟨0, Nat.zero_le _, rfl⟩, [0, 1], ?_⟩ ?_
  · (repeat' first | refine And.intro ?_ ?_ | exact xeC | fail)
  rintro ⟨i, hi, hq⟩
  have e2 : 0 + ((i : Nat) : Int).toNat = i := by omega
  repeat' (first | (fail_if_success (with_reducible refine xstp ?_)); first | ((with_reducible refine And.intro (fun (hb : _ = true) => ?_) (fun (hb : _ = false) => ?_)) <;> replace hb := xnC hb <;> (try first | exact xfC | exact bff hb (by assumption) | exact bff (by assumption) hb)) | (with_reducible refine Both.mk ?_ ?_) | ((with_reducible refine And.intro ?_ ?_); focus exact xoC) | ((with_reducible refine Or.inl ⟨?_, ?_, ?_⟩); (focus rfl); focus exact xaC) | ((with_reducible refine xwB ?_ ?_); focus exact xaC) | ((with_reducible refine xwC ?_ ?_); focus exact xaC) | ((with_reducible refine xwD ?_ ?_); focus exact xaC) | ((with_reducible refine xwE ?_ ?_); focus exact xaC) | (with_reducible intro hc; (try simp only [capsP, and_true] at hc); (try exact xfC)) | ((fail_if_success (with_reducible first | refine xgon ?_ | intro _)); (conv => whnf); (fail_if_success (fail_if_success (with_reducible first | refine xstp ?_ | refine Both.mk ?_ ?_ | refine xgon ?_ | intro _)))))
  · rw [decide_eq_false (p := l = m) (fun e => hb (by rw [e]))]
    refine FinK.mk ⟨[0, 1], _, _, ⟨rfl, rfl⟩, ?_⟩
    (repeat' first | refine And.intro ?_ ?_ | exact xeC | fail)
  · refine ⟨⟨i + 1, by omega, take_eq hq (by omega) (by omega) (mkS_inj.1 hb)⟩, [0, 1], by simp only; omega, ?_⟩
    (repeat' first | refine And.intro ?_ ?_ | exact xeC | fail)
  · obtain rfl : i = l.length := by omega
    rw [decide_eq_true (p := l = m) (by rw [List.take_length, hlm, List.take_length] at hq; exact hq)]
    refine FinK.mk ⟨[0, 1], _, _, ⟨rfl, rfl⟩, ?_⟩
    (repeat' first | refine And.intro ?_ ?_ | exact xeC | fail)
set_option maxRecDepth 10000 in
theorem cSame (w w2 : Bool) (l m : List Rc) (c d n : Nat) (hl : l.length ≤ 1000000000) (hn : n ≤ m.length) :
    Ctr Try.prog 30 [.c (.sl 0 0 3 0 l.length c), .c (.sl 1 0 3 0 n d)] [.one (rcR w l c), .one (rcR w2 m d)]
      fun v h => v = .c (.b (decide (l = m.take n))) ∧ h = [.one (rcR w l c), .one (rcR w2 m d)] := by
  have hml : (m.take n).length = n := by rw [List.length_take]; omega
  refine Ctr.mk' tbv mixed Try.func30 rfl rfl rfl (fun _ _ => by kernel_rfl) (by kernel_rfl) (by rfl) (by rfl) (by (repeat' first | refine And.intro ?_ ?_ | exact xeC | fail)) ?_
  repeat' (first | (fail_if_success (with_reducible refine xstp ?_)); first | ((with_reducible refine And.intro (fun (hb : _ = true) => ?_) (fun (hb : _ = false) => ?_)) <;> replace hb := xnC hb <;> (try first | exact xfC | exact bff hb (by assumption) | exact bff (by assumption) hb)) | (with_reducible refine Both.mk ?_ ?_) | ((with_reducible refine And.intro ?_ ?_); focus exact xoC) | ((with_reducible refine Or.inl ⟨?_, ?_, ?_⟩); (focus rfl); focus exact xaC) | ((with_reducible refine xwB ?_ ?_); focus exact xaC) | ((with_reducible refine xwC ?_ ?_); focus exact xaC) | ((with_reducible refine xwD ?_ ?_); focus exact xaC) | ((with_reducible refine xwE ?_ ?_); focus exact xaC) | (with_reducible intro hc; (try simp only [capsP, and_true] at hc); (try exact xfC)) | ((fail_if_success (with_reducible first | refine xgon ?_ | intro _)); (conv => whnf); (fail_if_success (fail_if_success (with_reducible first | refine xstp ?_ | refine Both.mk ?_ ?_ | refine xgon ?_ | intro _)))))
  · rw [decide_eq_false (p := l = m.take n) (fun e => hb (by rw [e, hml]))]
    refine FinK.mk ⟨[0, 1], _, _, ⟨rfl, rfl⟩, ?_⟩
    (repeat' first | refine And.intro ?_ ?_ | exact xeC | fail)
  have hlm : l.length = n := by omega
  refine LoopK.mk' {i : Nat // i ≤ l.length ∧ l.take i = m.take i}
    (fun ⟨i, _⟩ => ⟨[(0, .c (.sl 0 0 3 0 l.length c)), (1, .c (.sl 1 0 3 0 n d)), (5, .c (.i .i64 (i : Nat)))], [.one (rcR w l c), .one (rcR w2 m d)]⟩) (fun p => l.length - p.1)
    ⟨⟨0, Nat.zero_le _, rfl⟩, [0, 1], ?_⟩ ?_
  · (repeat' first | refine And.intro ?_ ?_ | exact xeC | fail)
  rintro ⟨i, hi, hq⟩
  have e2 : 0 + ((i : Nat) : Int).toNat = i := by omega
  repeat' (first | (fail_if_success (with_reducible refine xstp ?_)); first | ((with_reducible refine And.intro (fun (hb : _ = true) => ?_) (fun (hb : _ = false) => ?_)) <;> replace hb := xnC hb <;> (try first | exact xfC | exact bff hb (by assumption) | exact bff (by assumption) hb)) | (with_reducible refine Both.mk ?_ ?_) | ((with_reducible refine And.intro ?_ ?_); focus exact xoC) | ((with_reducible refine Or.inl ⟨?_, ?_, ?_⟩); (focus rfl); focus exact xaC) | ((with_reducible refine xwB ?_ ?_); focus exact xaC) | ((with_reducible refine xwC ?_ ?_); focus exact xaC) | ((with_reducible refine xwD ?_ ?_); focus exact xaC) | ((with_reducible refine xwE ?_ ?_); focus exact xaC) | (with_reducible intro hc; (try simp only [capsP, and_true] at hc); (try exact xfC)) | ((fail_if_success (with_reducible first | refine xgon ?_ | intro _)); (conv => whnf); (fail_if_success (fail_if_success (with_reducible first | refine xstp ?_ | refine Both.mk ?_ ?_ | refine xgon ?_ | intro _)))))
  · have hne : l ≠ m.take n := fun e => by
      have hg : l.getD i default = m.getD i default := by
        rw [e, getD_at (show i < (m.take n).length by omega), List.getElem_take, getD_at (show i < m.length by omega)]
      rw [hg] at hb
      simp at hb
    rw [decide_eq_false (p := l = m.take n) hne]
    refine FinK.mk ⟨[0, 1], _, _, ⟨rfl, rfl⟩, ?_⟩
    (repeat' first | refine And.intro ?_ ?_ | exact xeC | fail)
  · have hg : l.getD i default = m.getD i default := by
      obtain ⟨h1, h2, h3⟩ := hb
      have h2 := mkS_inj.1 h2
      have h3 := mkS_inj.1 h3
      generalize l.getD i default = x at *
      generalize m.getD i default = y at *
      cases x
      cases y
      simp only at h1 h2 h3
      rw [h1, h2, h3]
    refine ⟨⟨i + 1, by omega, take_eq hq (by omega) (by omega) hg⟩, [0, 1], by simp only; omega, ?_⟩
    (repeat' first | refine And.intro ?_ ?_ | exact xeC | fail)
  · obtain rfl : i = l.length := by omega
    rw [decide_eq_true (p := l = m.take n) (by rw [List.take_length, hlm] at hq; exact hq)]
    refine FinK.mk ⟨[0, 1], _, _, ⟨rfl, rfl⟩, ?_⟩
    (repeat' first | refine And.intro ?_ ?_ | exact xeC | fail)
end Go.Proofs.Ytkjkbpnhocjenaa
namespace Go.Proofs.Ytkjkbpnhocjenaa
open Go.X
set_option linter.unusedSimpArgs false
set_option linter.unusedVariables false
open P4
open P5
theorem WI.xs {w : Wr} {A : List Rc} (h : WI w A) (hn : A.length ≤ 50) {X : List Ch} (hX : X.map Ch.l = w.L) :
    X.length ≤ 50 ∧ (∀ x ∈ X, 0 < x.l.length ∧ x.l.length ≤ 50 ∧ (∀ q ∈ x.l, okR q)) ∧ (∀ x ∈ X, x.l.length ≤ 100000 ∧ (conB x.l).length ≤ 1000000) ∧ w.ad ≤ 50 := by
  have hk := h.lok hn
  have h1 := hk.len
  rw [← hX, List.length_map] at h1
  have h2 : ∀ x ∈ X, 0 < x.l.length ∧ x.l.length ≤ 50 ∧ (∀ q ∈ x.l, okR q) := fun x hx => by
    have hm : x.l ∈ w.L := by rw [← hX]; exact List.mem_map.2 ⟨x, hx, rfl⟩
    have h3 := hk.okX _ hm
    have h4 := (LOk.sub hm).length_le
    have h5 := hk.n
    exact ⟨h3.1, by omega, h3.2.2⟩
  refine ⟨h1, h2, fun x hx => ?_, by rw [h.ad]; exact hn⟩
  obtain ⟨_, h4, h5⟩ := h2 x hx
  have := conB_len h5
  omega
theorem encCh_rk4 (X : List Ch) (i : Nat) : List.map (C.rk [Sg.whole 1, Sg.whole 2, Sg.whole 3] 4) (encCh 4 X i) = encCh 5 X i := rfl
theorem rH41cF0 {σ : List Sg} {H h' : List Fam} {v : T} {K : T → List Fam → Prop} {H' : List Fam} {v' : T} {N : Nat} (hk : K v' H') (hN : H.length = N := by (try simp only [↓List.length_cons, ↓List.length_nil, Nat.reduceAdd]) <;> rfl) (h : givesF σ N H σ h' = some H' := by (try simp (maxSteps := 1000000) only [givesF, setF, updF, Fam.zeroth, Fam.rk, Ck.rk, C.rk, E.rk, T.rk, key, List.map_cons, List.map_nil, List.cons_append, List.nil_append, List.length_cons, List.length_nil, Option.map_some, Option.bind_some, Nat.reduceAdd, Nat.zero_add, Nat.add_zero, Nat.add_sub_cancel_left, Int.toNat_natCast, reps, List.all_cons, List.all_nil, C.flat, List.append_eq, Bool.not_true, Bool.and_true, Bool.or_false, Bool.or_self, Bool.not_false, List.append_nil, Bool.and_self, ↓chG_rk]) <;> rfl) (hv : v.rk σ N = v' := by (try simp only [givesF, setF, updF, Fam.zeroth, Fam.rk, Ck.rk, C.rk, E.rk, T.rk, key, List.map_cons, List.map_nil, List.cons_append, List.nil_append, List.length_cons, List.length_nil, Option.map_some, Option.bind_some, Nat.reduceAdd, Nat.zero_add, Nat.add_zero, Nat.add_sub_cancel_left, Int.toNat_natCast, reps, List.all_cons, List.all_nil, C.flat, List.append_eq, Bool.not_true, Bool.and_true, Bool.or_false, Bool.or_self, Bool.not_false, List.append_nil, Bool.and_self, ↓chG_rk]) <;> rfl) : RetG σ H h' v K := ret_mk3 hN h hv hk
theorem cH41cF3 {P : Program} {F : Nat} {args : List T} {H : List Fam} {K : T → List Fam → Prop} {σ : List Sg} {nl : List Fam} {args0 : List T} {h0 : List Fam} {Q : T → List Fam → Prop} {H2 H1 : List Fam} {N n : Nat} (hc : Ctr P F args0 h0 Q) (hk : ∀ v h', Q v h' → capsP h' → RetG σ H2 h' v K) (hap : apart σ = true := by rfl) (hnl : nl.all nilB = true := by rfl) (h1 : H ++ nl = H1 := by first | exact List.append_nil _ | ((try simp only [List.cons_append, List.nil_append]) <;> rfl)) (hN : H1.length = N := by (try simp only [↓List.length_cons, ↓List.length_nil, Nat.reduceAdd]) <;> rfl) (hn : H.length = n := by (try simp only [↓List.length_cons, ↓List.length_nil, Nat.reduceAdd]) <;> rfl) (hH : givesF σ N H1 σ h0 = some H2 := by (try simp (maxSteps := 1000000) only [givesF, setF, updF, Fam.zeroth, Fam.rk, Ck.rk, C.rk, E.rk, T.rk, key, List.map_cons, List.map_nil, List.cons_append, List.nil_append, List.length_cons, List.length_nil, Option.map_some, Option.bind_some, Nat.reduceAdd, Nat.zero_add, Nat.add_zero, Nat.add_sub_cancel_left, Int.toNat_natCast, reps, List.all_cons, List.all_nil, C.flat, List.append_eq, Bool.not_true, Bool.and_true, Bool.or_false, Bool.or_self, Bool.not_false, List.append_nil, Bool.and_self, ↓chG_rk]) <;> rfl) (hle : leS n H1 σ N σ h0 (belsK N (h0.map (Fam.rk σ N)) (argsK n args (args0.map (T.rk σ N)) True)) := by repeat' first | refine And.intro ?_ ?_ | exact xeC | fail) : CallK P F args H K := CallK.mk3 hc hap hnl h1 hN hn hH hle hk
theorem rH41cF2 {σ : List Sg} {H h' : List Fam} {v : T} {K : T → List Fam → Prop} {H' : List Fam} {v' : T} {N : Nat} (hk : K v' H') (hN : H.length = N := by (try simp only [↓List.length_cons, ↓List.length_nil, Nat.reduceAdd]) <;> rfl) (h : givesF σ N H σ h' = some H' := by (try simp (maxSteps := 1000000) only [givesF, setF, updF, Fam.zeroth, Fam.rk, Ck.rk, C.rk, E.rk, T.rk, key, List.map_cons, List.map_nil, List.cons_append, List.nil_append, List.length_cons, List.length_nil, Option.map_some, Option.bind_some, Nat.reduceAdd, Nat.zero_add, Nat.add_zero, Nat.add_sub_cancel_left, Int.toNat_natCast, reps, List.all_cons, List.all_nil, C.flat, List.append_eq, Bool.not_true, Bool.and_true, Bool.or_false, Bool.or_self, Bool.not_false, List.append_nil, Bool.and_self, ↓chG_rk, encCh_rk4]) <;> rfl) (hv : v.rk σ N = v' := by (try simp only [givesF, setF, updF, Fam.zeroth, Fam.rk, Ck.rk, C.rk, E.rk, T.rk, key, List.map_cons, List.map_nil, List.cons_append, List.nil_append, List.length_cons, List.length_nil, Option.map_some, Option.bind_some, Nat.reduceAdd, Nat.zero_add, Nat.add_zero, Nat.add_sub_cancel_left, Int.toNat_natCast, reps, List.all_cons, List.all_nil, C.flat, List.append_eq, Bool.not_true, Bool.and_true, Bool.or_false, Bool.or_self, Bool.not_false, List.append_nil, Bool.and_self, ↓chG_rk, encCh_rk4]) <;> rfl) : RetG σ H h' v K := ret_mk3 hN h hv hk
set_option maxRecDepth 10000 in
set_option maxHeartbeats 8000000 in
theorem cmade (n : Int) (hn : 1 ≤ n ∧ n ≤ 65536) (w : Bool) (l : List Rc) (c : Nat) (hl : AOk l) :
    Ctr Try.prog 18 [.c (.i .i64 n), .c (.sl 0 0 3 0 l.length c)] [.one (rcR w l c)]
      fun v h => v = .t [.c (.s (mkS (madeB n l))), .c .tt] ∧ h = [.one (rcR w l c)] := by
  have hl0 := hl.n
  refine Ctr.mk' tbv mixed Try.func18 rfl rfl rfl (fun _ _ => by kernel_rfl) (by kernel_rfl) (by rfl) (by rfl) (by (repeat' first | refine And.intro ?_ ?_ | exact xeC | fail) <;> (exact xmC)) ?_
  repeat' (first | (fail_if_success (with_reducible refine xstp ?_)); first | ((with_reducible refine And.intro (fun (hb : _ = true) => ?_) (fun (hb : _ = false) => ?_)) <;> replace hb := xnC hb <;> (try first | exact xfC | exact bff hb (by assumption) | exact bff (by assumption) hb)) | (with_reducible refine Both.mk ?_ ?_) | ((with_reducible refine And.intro ?_ ?_); focus exact xoC) | ((with_reducible refine Or.inl ⟨?_, ?_, ?_⟩); (focus rfl); focus exact xaC) | ((with_reducible refine xwB ?_ ?_); focus exact xaC) | ((with_reducible refine xwC ?_ ?_); focus exact xaC) | ((with_reducible refine xwD ?_ ?_); focus exact xaC) | ((with_reducible refine xwE ?_ ?_); focus exact xaC) | (with_reducible intro hc; (try simp only [capsP, and_true] at hc); (try exact xfC)) | ((fail_if_success (with_reducible first | refine xgon ?_ | intro _)); (conv => whnf); (fail_if_success (fail_if_success (with_reducible first | refine xstp ?_ | refine Both.mk ?_ ?_ | refine xgon ?_ | intro _)))))
  refine cH41cF3 (σ := []) (nl := []) (cNewW n) ?_
  rintro v h' hq hcaps
  rcases hq with ⟨hq, _⟩ | ⟨_, rfl, rfl⟩
  · exfalso; omega
  refine rH41cF0 ?_
  repeat' (first | (fail_if_success (with_reducible refine xstp ?_)); first | ((with_reducible refine And.intro (fun (hb : _ = true) => ?_) (fun (hb : _ = false) => ?_)) <;> replace hb := xnC hb <;> (try first | exact xfC | exact bff hb (by assumption) | exact bff (by assumption) hb)) | (with_reducible refine Both.mk ?_ ?_) | ((with_reducible refine And.intro ?_ ?_); focus exact xoC) | ((with_reducible refine Or.inl ⟨?_, ?_, ?_⟩); (focus rfl); focus exact xaC) | ((with_reducible refine xwB ?_ ?_); focus exact xaC) | ((with_reducible refine xwC ?_ ?_); focus exact xaC) | ((with_reducible refine xwD ?_ ?_); focus exact xaC) | ((with_reducible refine xwE ?_ ?_); focus exact xaC) | (with_reducible intro hc; (try simp only [capsP, and_true] at hc); (try exact xfC)) | ((fail_if_success (with_reducible first | refine xgon ?_ | intro _)); (conv => whnf); (fail_if_success (fail_if_success (with_reducible first | refine xstp ?_ | refine Both.mk ?_ ?_ | refine xgon ?_ | intro _)))))
  refine LoopK.mk' {p : Nat × List Ch × Nat // p.1 ≤ l.length ∧ p.2.1.map Ch.l = (wrA n (l.take p.1)).L}
    (fun ⟨(i, X, c1), _⟩ => ⟨[(1, .c (.sl 0 0 3 0 l.length c)), (6, .c (.p 1 0 0)), (8, .c (.i .i64 (i : Nat)))],
      [.one (rcR w l c), .one (wrC (wrA n (l.take i)) 2 X.length c1), .one (chR 3 X c1), .many (chG X)]⟩) (fun p => l.length - p.1.1)
    ⟨⟨(0, [], 0), Nat.zero_le _, rfl⟩, [0, 1, 2, 3], ?_⟩ ?_
  · (repeat' first | refine And.intro ?_ ?_ | exact xeC | fail)
    all_goals first
      | (exact xmC)
      | skip
  rintro ⟨⟨i, X, c1⟩, hi, hX⟩
  simp only at hi hX
  have e2 : 0 + ((i : Nat) : Int).toNat = i := by omega
  have hW := (hl.run n i hi)
  have hil : (l.take i).length = i := by rw [List.length_take]; omega
  have hxs := hW.1.xs (by omega) hX
  rcases Nat.lt_or_ge i l.length with hlt | hge
  · have hru := wrA_snoc n (l.take i) (l.getD i default)
    rw [← take_snocG l hlt] at hru
    have h0 := hW.2 hlt
    have hri := (hl.ok _ (mem_getD hlt)).1.1.2
    repeat' (first | (fail_if_success (with_reducible refine xstp ?_)); first | ((with_reducible refine And.intro (fun (hb : _ = true) => ?_) (fun (hb : _ = false) => ?_)) <;> replace hb := xnC hb <;> (try first | exact xfC | exact bff hb (by assumption) | exact bff (by assumption) hb)) | (with_reducible refine Both.mk ?_ ?_) | ((with_reducible refine And.intro ?_ ?_); focus exact xoC) | ((with_reducible refine Or.inl ⟨?_, ?_, ?_⟩); (focus rfl); focus exact xaC) | ((with_reducible refine xwB ?_ ?_); focus exact xaC) | ((with_reducible refine xwC ?_ ?_); focus exact xaC) | ((with_reducible refine xwD ?_ ?_); focus exact xaC) | ((with_reducible refine xwE ?_ ?_); focus exact xaC) | (with_reducible intro hc; (try simp only [capsP, and_true] at hc); (try exact xfC)) | ((fail_if_success (with_reducible first | refine xgon ?_ | intro _)); (conv => whnf); (fail_if_success (fail_if_success (with_reducible first | refine xstp ?_ | refine Both.mk ?_ ?_ | refine xgon ?_ | intro _)))))
    rw [e2]
    refine cH41cF3 (σ := [.whole 1, .whole 2, .whole 3]) (nl := []) (cAddW (wrA n (l.take i)) X c1 (l.getD i default) hX (by omega) (by omega) hxs.2.2.1 (by omega)) ?_ (hle := by (repeat' first | refine And.intro ?_ ?_ | exact xeC | fail) <;> (exact xmC))
    rintro v h' ⟨X', c1', hX', rfl, rfl⟩ hcaps
    rw [h0]
    refine rH41cF2 ?_
    repeat' (first | (fail_if_success (with_reducible refine xstp ?_)); first | ((with_reducible refine And.intro (fun (hb : _ = true) => ?_) (fun (hb : _ = false) => ?_)) <;> replace hb := xnC hb <;> (try first | exact xfC | exact bff hb (by assumption) | exact bff (by assumption) hb)) | (with_reducible refine Both.mk ?_ ?_) | ((with_reducible refine And.intro ?_ ?_); focus exact xoC) | ((with_reducible refine Or.inl ⟨?_, ?_, ?_⟩); (focus rfl); focus exact xaC) | ((with_reducible refine xwB ?_ ?_); focus exact xaC) | ((with_reducible refine xwC ?_ ?_); focus exact xaC) | ((with_reducible refine xwD ?_ ?_); focus exact xaC) | ((with_reducible refine xwE ?_ ?_); focus exact xaC) | (with_reducible intro hc; (try simp only [capsP, and_true] at hc); (try exact xfC)) | ((fail_if_success (with_reducible first | refine xgon ?_ | intro _)); (conv => whnf); (fail_if_success (fail_if_success (with_reducible first | refine xstp ?_ | refine Both.mk ?_ ?_ | refine xgon ?_ | intro _)))))
    refine ⟨⟨(i + 1, X', c1'), hlt, by rw [hru]; exact hX'⟩, [0, 1, 4, 5], by simp only; omega, ?_⟩
    simp only [hru]
    (repeat' first | refine And.intro ?_ ?_ | exact xeC | fail)
    all_goals first
      | (exact xmC)
      | skip
  · obtain rfl : i = l.length := by omega
    have hmk : XOk X := ⟨by omega, fun x hx => by have := hxs.2.1 x hx; exact ⟨this.1, by omega, this.2.2⟩⟩
    repeat' (first | (fail_if_success (with_reducible refine xstp ?_)); first | ((with_reducible refine And.intro (fun (hb : _ = true) => ?_) (fun (hb : _ = false) => ?_)) <;> replace hb := xnC hb <;> (try first | exact xfC | exact bff hb (by assumption) | exact bff (by assumption) hb)) | (with_reducible refine Both.mk ?_ ?_) | ((with_reducible refine And.intro ?_ ?_); focus exact xoC) | ((with_reducible refine Or.inl ⟨?_, ?_, ?_⟩); (focus rfl); focus exact xaC) | ((with_reducible refine xwB ?_ ?_); focus exact xaC) | ((with_reducible refine xwC ?_ ?_); focus exact xaC) | ((with_reducible refine xwD ?_ ?_); focus exact xaC) | ((with_reducible refine xwE ?_ ?_); focus exact xaC) | (with_reducible intro hc; (try simp only [capsP, and_true] at hc); (try exact xfC)) | ((fail_if_success (with_reducible first | refine xgon ?_ | intro _)); (conv => whnf); (fail_if_success (fail_if_success (with_reducible first | refine xstp ?_ | refine Both.mk ?_ ?_ | refine xgon ?_ | intro _)))))
    refine cH41cF3 (σ := [.whole 1, .whole 2, .whole 3]) (nl := []) (cCloseW (wrA n (l.take l.length)) X c1 hmk hX) ?_ (hle := by (repeat' first | refine And.intro ?_ ?_ | exact xeC | fail) <;> (exact xmC))
    have hcl := hW.1.cl
    rw [List.take_length] at hcl ⊢
    rw [if_neg (by rw [hcl]; decide), if_neg (by rw [hcl]; decide)]
    rintro v h' ⟨rfl, rfl⟩ hcaps
    refine rH41cF0 ?_
    repeat' (first | (fail_if_success (with_reducible refine xstp ?_)); first | ((with_reducible refine And.intro (fun (hb : _ = true) => ?_) (fun (hb : _ = false) => ?_)) <;> replace hb := xnC hb <;> (try first | exact xfC | exact bff hb (by assumption) | exact bff (by assumption) hb)) | (with_reducible refine Both.mk ?_ ?_) | ((with_reducible refine And.intro ?_ ?_); focus exact xoC) | ((with_reducible refine Or.inl ⟨?_, ?_, ?_⟩); (focus rfl); focus exact xaC) | ((with_reducible refine xwB ?_ ?_); focus exact xaC) | ((with_reducible refine xwC ?_ ?_); focus exact xaC) | ((with_reducible refine xwD ?_ ?_); focus exact xaC) | ((with_reducible refine xwE ?_ ?_); focus exact xaC) | (with_reducible intro hc; (try simp only [capsP, and_true] at hc); (try exact xfC)) | ((fail_if_success (with_reducible first | refine xgon ?_ | intro _)); (conv => whnf); (fail_if_success (fail_if_success (with_reducible first | refine xstp ?_ | refine Both.mk ?_ ?_ | refine xgon ?_ | intro _)))))
    refine FinK.mk ⟨[0], _, _, ⟨rfl, rfl⟩, ?_⟩
    (repeat' first | refine And.intro ?_ ?_ | exact xeC | fail)
end Go.Proofs.Ytkjkbpnhocjenaa
namespace Go.Proofs.Ytkjkbpnhocjenaa
open Go.X
set_option linter.unusedSimpArgs false
set_option linter.unusedVariables false
open P4
open P5
def awL : List Rc := [⟨5, [97], [120]⟩, ⟨5, [98], [121]⟩, ⟨9, [97], [122, 122]⟩]
theorem awOk : AOk awL := by
  refine ⟨?_, ?_, by decide⟩
  · intro r hr
    simp only [awL, List.mem_cons, List.not_mem_nil, or_false] at hr
    rcases hr with rfl | rfl | rfl <;> decide
  · unfold awL; simp
structure Rec (A : List Rc) (b : Bg) : Prop where
  ok : BOk b
  rd : ∀ t fr un, readB b t fr un = (selR t fr un A, 0)
  nx : ∀ a, nxB b a = A.find? fun r => decide (a ≤ r.at_)
  cn : ∀ t, cntF (flatT b) t = cntQ A t
  sp : spnB b = spnL A
  tp : (topB b).Pairwise (· < ·) ∧ ∀ t, t ∈ topB b ↔ t ∈ A.map Rc.tp
theorem made_rec {A : List Rc} (h : AOk A) (n : Int) : bgE (madeB n A) = 0 ∧ Rec A (bgO (madeB n A)) := by
  obtain ⟨h1, h2, h3⟩ := made_open h n
  have hL := h.lok n
  have hf := (h.wr n).fl
  rw [h2]
  refine ⟨h1, h3, fun t fr un => ?_, fun a => ?_, fun t => ?_, ?_, ?_⟩
  · rw [read_bag hL, hf]
  · rw [next_bag hL, hf]
  · rw [cnt_bag, hf]
  · rw [span_bag hL, hf]
  · have := top_bag (wrA n A).L
    rw [hf] at this
    exact this
theorem aw_top {b : Bg} (h : Rec awL b) : topB b = [[97], [98]] := by
  refine srt_ext h.tp.1 (by decide) fun x => ?_
  rw [h.tp.2]
  simp [awL]
  grind
theorem st_row {g : Nat → List C} (h0 : g 0 = rowOf encSt [[97], [98]] 0) (h1 : g 1 = rowOf encSt [[97], [98]] 1) (i : Nat) (hi : i < [[97], [98]].length) : g i = rowOf encSt [[97], [98]] i :=
  match i, hi with
  | 0, _ => h0
  | 1, _ => h1
theorem aw_row {g : Nat → List C} (h0 : g 0 = rowOf encR awL 0) (h1 : g 1 = rowOf encR awL 1) (h2 : g 2 = rowOf encR awL 2) (i : Nat) (hi : i < awL.length) : g i = rowOf encR awL i :=
  match i, hi with
  | 0, _ => h0
  | 1, _ => h1
  | 2, _ => h2
theorem rH41cG0 {σ : List Sg} {H h' : List Fam} {v : T} {K : T → List Fam → Prop} {H' : List Fam} {v' : T} {N : Nat} (hk : K v' H') (hN : H.length = N := by (try simp only [↓List.length_cons, ↓List.length_nil, Nat.reduceAdd]) <;> rfl) (h : givesF σ N H σ h' = some H' := by (try simp (maxSteps := 1000000) only [givesF, setF, updF, Fam.zeroth, Fam.rk, Ck.rk, C.rk, E.rk, T.rk, key, List.map_cons, List.map_nil, List.cons_append, List.nil_append, List.length_cons, List.length_nil, Option.map_some, Option.bind_some, Nat.reduceAdd, Nat.zero_add, Nat.add_zero, Nat.add_sub_cancel_left, Int.toNat_natCast, reps, List.all_cons, List.all_nil, C.flat, List.append_eq, Bool.not_true, Bool.and_true, Bool.or_false, Bool.or_self, Bool.not_false, List.append_nil, Bool.and_self, ↓tpG_rk, ↓cnG_rk]) <;> rfl) (hv : v.rk σ N = v' := by (try simp only [givesF, setF, updF, Fam.zeroth, Fam.rk, Ck.rk, C.rk, E.rk, T.rk, key, List.map_cons, List.map_nil, List.cons_append, List.nil_append, List.length_cons, List.length_nil, Option.map_some, Option.bind_some, Nat.reduceAdd, Nat.zero_add, Nat.add_zero, Nat.add_sub_cancel_left, Int.toNat_natCast, reps, List.all_cons, List.all_nil, C.flat, List.append_eq, Bool.not_true, Bool.and_true, Bool.or_false, Bool.or_self, Bool.not_false, List.append_nil, Bool.and_self, ↓tpG_rk, ↓cnG_rk]) <;> rfl) : RetG σ H h' v K := ret_mk3 hN h hv hk
theorem rH41cG1 {σ : List Sg} {H h' : List Fam} {v : T} {K : T → List Fam → Prop} {H' : List Fam} {v' : T} {N : Nat} (hk : K v' H') (hN : H.length = N := by (try simp only [↓List.length_cons, ↓List.length_nil, Nat.reduceAdd]) <;> rfl) (h : givesF σ N H σ h' = some H' := by (try simp (maxSteps := 1000000) only [givesF, setF, updF, Fam.zeroth, Fam.rk, Ck.rk, C.rk, E.rk, T.rk, key, List.map_cons, List.map_nil, List.cons_append, List.nil_append, List.length_cons, List.length_nil, Option.map_some, Option.bind_some, Nat.reduceAdd, Nat.zero_add, Nat.add_zero, Nat.add_sub_cancel_left, Int.toNat_natCast, reps, List.all_cons, List.all_nil, C.flat, List.append_eq, Bool.not_true, Bool.and_true, Bool.or_false, Bool.or_self, Bool.not_false, List.append_nil, Bool.and_self, ↓tpG_rk, ↓cnG_rk, encEp_rk0]) <;> rfl) (hv : v.rk σ N = v' := by (try simp only [givesF, setF, updF, Fam.zeroth, Fam.rk, Ck.rk, C.rk, E.rk, T.rk, key, List.map_cons, List.map_nil, List.cons_append, List.nil_append, List.length_cons, List.length_nil, Option.map_some, Option.bind_some, Nat.reduceAdd, Nat.zero_add, Nat.add_zero, Nat.add_sub_cancel_left, Int.toNat_natCast, reps, List.all_cons, List.all_nil, C.flat, List.append_eq, Bool.not_true, Bool.and_true, Bool.or_false, Bool.or_self, Bool.not_false, List.append_nil, Bool.and_self, ↓tpG_rk, ↓cnG_rk, encEp_rk0]) <;> rfl) : RetG σ H h' v K := ret_mk3 hN h hv hk
theorem rH41cG2 {σ : List Sg} {H h' : List Fam} {v : T} {K : T → List Fam → Prop} {H' : List Fam} {v' : T} {N : Nat} (hk : K v' H') (hN : H.length = N := by (try simp only [↓List.length_cons, ↓List.length_nil, Nat.reduceAdd]) <;> rfl) (h : givesF σ N H σ h' = some H' := by (try simp (maxSteps := 1000000) only [givesF, setF, updF, Fam.zeroth, Fam.rk, Ck.rk, C.rk, E.rk, T.rk, key, List.map_cons, List.map_nil, List.cons_append, List.nil_append, List.length_cons, List.length_nil, Option.map_some, Option.bind_some, Nat.reduceAdd, Nat.zero_add, Nat.add_zero, Nat.add_sub_cancel_left, Int.toNat_natCast, reps, List.all_cons, List.all_nil, C.flat, List.append_eq, Bool.not_true, Bool.and_true, Bool.or_false, Bool.or_self, Bool.not_false, List.append_nil, Bool.and_self, ↓tpG_rk, ↓cnG_rk, encR]) <;> rfl) (hv : v.rk σ N = v' := by (try simp only [givesF, setF, updF, Fam.zeroth, Fam.rk, Ck.rk, C.rk, E.rk, T.rk, key, List.map_cons, List.map_nil, List.cons_append, List.nil_append, List.length_cons, List.length_nil, Option.map_some, Option.bind_some, Nat.reduceAdd, Nat.zero_add, Nat.add_zero, Nat.add_sub_cancel_left, Int.toNat_natCast, reps, List.all_cons, List.all_nil, C.flat, List.append_eq, Bool.not_true, Bool.and_true, Bool.or_false, Bool.or_self, Bool.not_false, List.append_nil, Bool.and_self, ↓tpG_rk, ↓cnG_rk, encR]) <;> rfl) : RetG σ H h' v K := ret_mk3 hN h hv hk
theorem cH41cG3 {P : Program} {F : Nat} {args : List T} {H : List Fam} {K : T → List Fam → Prop} {σ : List Sg} {nl : List Fam} {args0 : List T} {h0 : List Fam} {Q : T → List Fam → Prop} {H2 H1 : List Fam} {N n : Nat} (hc : Ctr P F args0 h0 Q) (hk : ∀ v h', Q v h' → capsP h' → RetG σ H2 h' v K) (hap : apart σ = true := by rfl) (hnl : nl.all nilB = true := by rfl) (h1 : H ++ nl = H1 := by first | exact List.append_nil _ | ((try simp only [List.cons_append, List.nil_append]) <;> rfl)) (hN : H1.length = N := by (try simp only [↓List.length_cons, ↓List.length_nil, Nat.reduceAdd]) <;> rfl) (hn : H.length = n := by (try simp only [↓List.length_cons, ↓List.length_nil, Nat.reduceAdd]) <;> rfl) (hH : givesF σ N H1 σ h0 = some H2 := by (try simp (maxSteps := 1000000) only [givesF, setF, updF, Fam.zeroth, Fam.rk, Ck.rk, C.rk, E.rk, T.rk, key, List.map_cons, List.map_nil, List.cons_append, List.nil_append, List.length_cons, List.length_nil, Option.map_some, Option.bind_some, Nat.reduceAdd, Nat.zero_add, Nat.add_zero, Nat.add_sub_cancel_left, Int.toNat_natCast, reps, List.all_cons, List.all_nil, C.flat, List.append_eq, Bool.not_true, Bool.and_true, Bool.or_false, Bool.or_self, Bool.not_false, List.append_nil, Bool.and_self, ↓tpG_rk, ↓cnG_rk]) <;> rfl) (hle : leS n H1 σ N σ h0 (belsK N (h0.map (Fam.rk σ N)) (argsK n args (args0.map (T.rk σ N)) True)) := by repeat' first | refine And.intro ?_ ?_ | exact xeC | fail) : CallK P F args H K := CallK.mk3 hc hap hnl h1 hN hn hH hle hk
set_option maxRecDepth 10000 in
set_option maxHeartbeats 16000000 in
theorem cawake : Ctr Try.prog 10 [] [] fun v h => v = .c .tt ∧ h = [] := by
  obtain ⟨hE, hR⟩ := made_rec awOk 20
  have hml := made_len awOk 20
  have hal : awL.length = 3 := rfl
  refine Ctr.mk' tbv mixed Try.func10 rfl rfl rfl (fun _ _ => by kernel_rfl) (by kernel_rfl) (by rfl) (by rfl) (by (repeat' first | refine And.intro ?_ ?_ | exact xeC | fail) <;> exact xmC2) ?_
  repeat' (first | (fail_if_success (with_reducible refine xstp ?_)); first | ((with_reducible refine And.intro (fun (hb : _ = true) => ?_) (fun (hb : _ = false) => ?_)) <;> replace hb := xnC hb <;> (try first | exact xfC | exact bff hb (by assumption) | exact bff (by assumption) hb)) | (with_reducible refine Both.mk ?_ ?_) | ((with_reducible refine And.intro ?_ ?_); focus exact xoC) | ((with_reducible refine Or.inl ⟨?_, ?_, ?_⟩); (focus rfl); focus exact xaC) | ((with_reducible refine xwB ?_ ?_); focus exact xaC) | ((with_reducible refine xwC ?_ ?_); focus exact xaC) | ((with_reducible refine xwD ?_ ?_); focus exact xaC) | ((with_reducible refine xwE ?_ ?_); focus exact xaC) | (with_reducible intro hc; (try simp only [capsP, and_true] at hc); (try exact xfC)) | ((fail_if_success (with_reducible first | refine xgon ?_ | intro _)); (conv => whnf); (fail_if_success (fail_if_success (with_reducible first | refine xstp ?_ | refine Both.mk ?_ ?_ | refine xgon ?_ | intro _)))))
  refine cH41cG3 (σ := [.whole 0]) (nl := []) (cmade 20 (by omega) true awL 3 awOk) ?_ (hle := by (repeat' first | refine And.intro ?_ ?_ | exact xeC | fail) <;> exact aw_row rfl rfl rfl)
  generalize madeB 20 awL = s at *
  rintro v h' ⟨rfl, rfl⟩ hcaps
  refine rH41cG0 ?_
  repeat' (first | (fail_if_success (with_reducible refine xstp ?_)); first | ((with_reducible refine And.intro (fun (hb : _ = true) => ?_) (fun (hb : _ = false) => ?_)) <;> replace hb := xnC hb <;> (try first | exact xfC | exact bff hb (by assumption) | exact bff (by assumption) hb)) | (with_reducible refine Both.mk ?_ ?_) | ((with_reducible refine And.intro ?_ ?_); focus exact xoC) | ((with_reducible refine Or.inl ⟨?_, ?_, ?_⟩); (focus rfl); focus exact xaC) | ((with_reducible refine xwB ?_ ?_); focus exact xaC) | ((with_reducible refine xwC ?_ ?_); focus exact xaC) | ((with_reducible refine xwD ?_ ?_); focus exact xaC) | ((with_reducible refine xwE ?_ ?_); focus exact xaC) | (with_reducible intro hc; (try simp only [capsP, and_true] at hc); (try exact xfC)) | ((fail_if_success (with_reducible first | refine xgon ?_ | intro _)); (conv => whnf); (fail_if_success (fail_if_success (with_reducible first | refine xstp ?_ | refine Both.mk ?_ ?_ | refine xgon ?_ | intro _)))))
  refine cH41cG3 (σ := []) (nl := []) (cOpenB s (by omega)) ?_
  rintro v h' hq hcaps
  rcases hq with ⟨hq, _⟩ | ⟨_, X, c, hX, rfl, rfl⟩
  · exact absurd hE hq
  generalize bgO s = b at *
  have hB := hR.ok
  refine rH41cG1 ?_
  repeat' (first | (fail_if_success (with_reducible refine xstp ?_)); first | ((with_reducible refine And.intro (fun (hb : _ = true) => ?_) (fun (hb : _ = false) => ?_)) <;> replace hb := xnC hb <;> (try first | exact xfC | exact bff hb (by assumption) | exact bff (by assumption) hb)) | (with_reducible refine Both.mk ?_ ?_) | ((with_reducible refine And.intro ?_ ?_); focus exact xoC) | ((with_reducible refine Or.inl ⟨?_, ?_, ?_⟩); (focus rfl); focus exact xaC) | ((with_reducible refine xwB ?_ ?_); focus exact xaC) | ((with_reducible refine xwC ?_ ?_); focus exact xaC) | ((with_reducible refine xwD ?_ ?_); focus exact xaC) | ((with_reducible refine xwE ?_ ?_); focus exact xaC) | (with_reducible intro hc; (try simp only [capsP, and_true] at hc); (try exact xfC)) | ((fail_if_success (with_reducible first | refine xgon ?_ | intro _)); (conv => whnf); (fail_if_success (fail_if_success (with_reducible first | refine xstp ?_ | refine Both.mk ?_ ?_ | refine xgon ?_ | intro _)))))
  refine cH41cG3 (σ := [.whole 1, .whole 2, .whole 3, .whole 4]) (nl := []) (cRead b X c [97] 5 9 hB hX) ?_ (hle := by (repeat' first | refine And.intro ?_ ?_ | exact xeC | fail) <;> exact xmC2)
  rw [hR.rd, show selR [97] 5 9 awL = [⟨5, [97], [120]⟩] by decide]
  rintro v h' ⟨c3, rfl, rfl⟩ hcaps
  refine rH41cG0 ?_
  repeat' (first | (fail_if_success (with_reducible refine xstp ?_)); first | ((with_reducible refine And.intro (fun (hb : _ = true) => ?_) (fun (hb : _ = false) => ?_)) <;> replace hb := xnC hb <;> (try first | exact xfC | exact bff hb (by assumption) | exact bff (by assumption) hb)) | (with_reducible refine Both.mk ?_ ?_) | ((with_reducible refine And.intro ?_ ?_); focus exact xoC) | ((with_reducible refine Or.inl ⟨?_, ?_, ?_⟩); (focus rfl); focus exact xaC) | ((with_reducible refine xwB ?_ ?_); focus exact xaC) | ((with_reducible refine xwC ?_ ?_); focus exact xaC) | ((with_reducible refine xwD ?_ ?_); focus exact xaC) | ((with_reducible refine xwE ?_ ?_); focus exact xaC) | (with_reducible intro hc; (try simp only [capsP, and_true] at hc); (try exact xfC)) | ((fail_if_success (with_reducible first | refine xgon ?_ | intro _)); (conv => whnf); (fail_if_success (fail_if_success (with_reducible first | refine xstp ?_ | refine Both.mk ?_ ?_ | refine xgon ?_ | intro _)))))
  refine cH41cG3 (σ := [.whole 1, .whole 2, .whole 3, .whole 4]) (nl := []) (cNext b X c 6 hB hX) ?_ (hle := by (repeat' first | refine And.intro ?_ ?_ | exact xeC | fail) <;> exact xmC2)
  rw [hR.nx, show (awL.find? fun r => decide (6 ≤ r.at_)) = some ⟨9, [97], [122, 122]⟩ by decide, show optR (some ⟨9, [97], [122, 122]⟩) = .t [.a (encR ⟨9, [97], [122, 122]⟩), .c (.b true)] from rfl]
  rintro v h' ⟨rfl, rfl⟩ hcaps
  refine rH41cG2 ?_
  repeat' (first | (fail_if_success (with_reducible refine xstp ?_)); first | ((with_reducible refine And.intro (fun (hb : _ = true) => ?_) (fun (hb : _ = false) => ?_)) <;> replace hb := xnC hb <;> (try first | exact xfC | exact bff hb (by assumption) | exact bff (by assumption) hb)) | (with_reducible refine Both.mk ?_ ?_) | ((with_reducible refine And.intro ?_ ?_); focus exact xoC) | ((with_reducible refine Or.inl ⟨?_, ?_, ?_⟩); (focus rfl); focus exact xaC) | ((with_reducible refine xwB ?_ ?_); focus exact xaC) | ((with_reducible refine xwC ?_ ?_); focus exact xaC) | ((with_reducible refine xwD ?_ ?_); focus exact xaC) | ((with_reducible refine xwE ?_ ?_); focus exact xaC) | (with_reducible intro hc; (try simp only [capsP, and_true] at hc); (try exact xfC)) | ((fail_if_success (with_reducible first | refine xgon ?_ | intro _)); (conv => whnf); (fail_if_success (fail_if_success (with_reducible first | refine xstp ?_ | refine Both.mk ?_ ?_ | refine xgon ?_ | intro _)))))
  refine cH41cG3 (σ := [.whole 1, .whole 2, .whole 3, .whole 4]) (nl := []) (cSpan b X c hB hX) ?_ (hle := by (repeat' first | refine And.intro ?_ ?_ | exact xeC | fail) <;> exact xmC2)
  rw [hR.sp, show spnL awL = .t [.c (.i .i64 5), .c (.i .i64 9), .c .tt] from rfl]
  rintro v h' ⟨rfl, rfl⟩ hcaps
  refine rH41cG0 ?_
  repeat' (first | (fail_if_success (with_reducible refine xstp ?_)); first | ((with_reducible refine And.intro (fun (hb : _ = true) => ?_) (fun (hb : _ = false) => ?_)) <;> replace hb := xnC hb <;> (try first | exact xfC | exact bff hb (by assumption) | exact bff (by assumption) hb)) | (with_reducible refine Both.mk ?_ ?_) | ((with_reducible refine And.intro ?_ ?_); focus exact xoC) | ((with_reducible refine Or.inl ⟨?_, ?_, ?_⟩); (focus rfl); focus exact xaC) | ((with_reducible refine xwB ?_ ?_); focus exact xaC) | ((with_reducible refine xwC ?_ ?_); focus exact xaC) | ((with_reducible refine xwD ?_ ?_); focus exact xaC) | ((with_reducible refine xwE ?_ ?_); focus exact xaC) | (with_reducible intro hc; (try simp only [capsP, and_true] at hc); (try exact xfC)) | ((fail_if_success (with_reducible first | refine xgon ?_ | intro _)); (conv => whnf); (fail_if_success (fail_if_success (with_reducible first | refine xstp ?_ | refine Both.mk ?_ ?_ | refine xgon ?_ | intro _)))))
  refine cH41cG3 (σ := [.whole 1, .whole 2, .whole 3, .whole 4]) (nl := []) (cTopics b X c hB hX) ?_ (hle := by (repeat' first | refine And.intro ?_ ?_ | exact xeC | fail) <;> exact xmC2)
  rw [aw_top hR]
  rintro v h' ⟨c4, rfl, rfl⟩ hcaps
  refine rH41cG0 ?_
  repeat' (first | (fail_if_success (with_reducible refine xstp ?_)); first | ((with_reducible refine And.intro (fun (hb : _ = true) => ?_) (fun (hb : _ = false) => ?_)) <;> replace hb := xnC hb <;> (try first | exact xfC | exact bff hb (by assumption) | exact bff (by assumption) hb)) | (with_reducible refine Both.mk ?_ ?_) | ((with_reducible refine And.intro ?_ ?_); focus exact xoC) | ((with_reducible refine Or.inl ⟨?_, ?_, ?_⟩); (focus rfl); focus exact xaC) | ((with_reducible refine xwB ?_ ?_); focus exact xaC) | ((with_reducible refine xwC ?_ ?_); focus exact xaC) | ((with_reducible refine xwD ?_ ?_); focus exact xaC) | ((with_reducible refine xwE ?_ ?_); focus exact xaC) | (with_reducible intro hc; (try simp only [capsP, and_true] at hc); (try exact xfC)) | ((fail_if_success (with_reducible first | refine xgon ?_ | intro _)); (conv => whnf); (fail_if_success (fail_if_success (with_reducible first | refine xstp ?_ | refine Both.mk ?_ ?_ | refine xgon ?_ | intro _)))))
  · skip
    refine cH41cG3 (σ := [.whole 7, .whole 8]) (nl := []) (ctexts true true [[97], [98]] [[97], [98]] c4 2 (by decide)) ?_ (hle := by (repeat' first | refine And.intro ?_ ?_ | exact xeC | fail) <;> exact st_row rfl rfl)
    rw [decide_eq_true rfl]
    rintro v h' ⟨rfl, rfl⟩ hcaps
    refine rH41cG0 ?_
    repeat' (first | (fail_if_success (with_reducible refine xstp ?_)); first | ((with_reducible refine And.intro (fun (hb : _ = true) => ?_) (fun (hb : _ = false) => ?_)) <;> replace hb := xnC hb <;> (try first | exact xfC | exact bff hb (by assumption) | exact bff (by assumption) hb)) | (with_reducible refine Both.mk ?_ ?_) | ((with_reducible refine And.intro ?_ ?_); focus exact xoC) | ((with_reducible refine Or.inl ⟨?_, ?_, ?_⟩); (focus rfl); focus exact xaC) | ((with_reducible refine xwB ?_ ?_); focus exact xaC) | ((with_reducible refine xwC ?_ ?_); focus exact xaC) | ((with_reducible refine xwD ?_ ?_); focus exact xaC) | ((with_reducible refine xwE ?_ ?_); focus exact xaC) | (with_reducible intro hc; (try simp only [capsP, and_true] at hc); (try exact xfC)) | ((fail_if_success (with_reducible first | refine xgon ?_ | intro _)); (conv => whnf); (fail_if_success (fail_if_success (with_reducible first | refine xstp ?_ | refine Both.mk ?_ ?_ | refine xgon ?_ | intro _)))))
    refine cH41cG3 (σ := [.whole 1, .whole 2, .whole 3, .whole 4]) (nl := []) (cCount b X c [97] hB hX) ?_ (hle := by (repeat' first | refine And.intro ?_ ?_ | exact xeC | fail) <;> exact xmC2)
    rw [hR.cn, show cntQ awL [97] = 2 by decide]
    rintro v h' ⟨rfl, rfl⟩ hcaps
    refine rH41cG0 ?_
    repeat' (first | (fail_if_success (with_reducible refine xstp ?_)); first | ((with_reducible refine And.intro (fun (hb : _ = true) => ?_) (fun (hb : _ = false) => ?_)) <;> replace hb := xnC hb <;> (try first | exact xfC | exact bff hb (by assumption) | exact bff (by assumption) hb)) | (with_reducible refine Both.mk ?_ ?_) | ((with_reducible refine And.intro ?_ ?_); focus exact xoC) | ((with_reducible refine Or.inl ⟨?_, ?_, ?_⟩); (focus rfl); focus exact xaC) | ((with_reducible refine xwB ?_ ?_); focus exact xaC) | ((with_reducible refine xwC ?_ ?_); focus exact xaC) | ((with_reducible refine xwD ?_ ?_); focus exact xaC) | ((with_reducible refine xwE ?_ ?_); focus exact xaC) | (with_reducible intro hc; (try simp only [capsP, and_true] at hc); (try exact xfC)) | ((fail_if_success (with_reducible first | refine xgon ?_ | intro _)); (conv => whnf); (fail_if_success (fail_if_success (with_reducible first | refine xstp ?_ | refine Both.mk ?_ ?_ | refine xgon ?_ | intro _)))))
    refine cH41cG3 (σ := [.whole 1, .whole 2, .whole 3, .whole 4]) (nl := []) (cCount b X c [] hB hX) ?_ (hle := by (repeat' first | refine And.intro ?_ ?_ | exact xeC | fail) <;> exact xmC2)
    rw [hR.cn, show cntQ awL [] = 3 by decide]
    rintro v h' ⟨rfl, rfl⟩ hcaps
    refine rH41cG0 ?_
    repeat' (first | (fail_if_success (with_reducible refine xstp ?_)); first | ((with_reducible refine And.intro (fun (hb : _ = true) => ?_) (fun (hb : _ = false) => ?_)) <;> replace hb := xnC hb <;> (try first | exact xfC | exact bff hb (by assumption) | exact bff (by assumption) hb)) | (with_reducible refine Both.mk ?_ ?_) | ((with_reducible refine And.intro ?_ ?_); focus exact xoC) | ((with_reducible refine Or.inl ⟨?_, ?_, ?_⟩); (focus rfl); focus exact xaC) | ((with_reducible refine xwB ?_ ?_); focus exact xaC) | ((with_reducible refine xwC ?_ ?_); focus exact xaC) | ((with_reducible refine xwD ?_ ?_); focus exact xaC) | ((with_reducible refine xwE ?_ ?_); focus exact xaC) | (with_reducible intro hc; (try simp only [capsP, and_true] at hc); (try exact xfC)) | ((fail_if_success (with_reducible first | refine xgon ?_ | intro _)); (conv => whnf); (fail_if_success (fail_if_success (with_reducible first | refine xstp ?_ | refine Both.mk ?_ ?_ | refine xgon ?_ | intro _)))))
    refine cH41cG3 (σ := [.whole 5, .whole 0]) (nl := []) (cSame true true [⟨5, [97], [120]⟩] awL c3 3 1 (by decide) (by decide)) ?_
    rw [decide_eq_true (p := [⟨5, [97], [120]⟩] = awL.take 1) rfl]
    rintro v h' ⟨rfl, rfl⟩ hcaps
    refine rH41cG0 ?_
    repeat' (first | (fail_if_success (with_reducible refine xstp ?_)); first | ((with_reducible refine And.intro (fun (hb : _ = true) => ?_) (fun (hb : _ = false) => ?_)) <;> replace hb := xnC hb <;> (try first | exact xfC | exact bff hb (by assumption) | exact bff (by assumption) hb)) | (with_reducible refine Both.mk ?_ ?_) | ((with_reducible refine And.intro ?_ ?_); focus exact xoC) | ((with_reducible refine Or.inl ⟨?_, ?_, ?_⟩); (focus rfl); focus exact xaC) | ((with_reducible refine xwB ?_ ?_); focus exact xaC) | ((with_reducible refine xwC ?_ ?_); focus exact xaC) | ((with_reducible refine xwD ?_ ?_); focus exact xaC) | ((with_reducible refine xwE ?_ ?_); focus exact xaC) | (with_reducible intro hc; (try simp only [capsP, and_true] at hc); (try exact xfC)) | ((fail_if_success (with_reducible first | refine xgon ?_ | intro _)); (conv => whnf); (fail_if_success (fail_if_success (with_reducible first | refine xstp ?_ | refine Both.mk ?_ ?_ | refine xgon ?_ | intro _)))))
    · refine FinK.mk ⟨[], _, _, ⟨rfl, rfl⟩, ?_⟩
      (repeat' first | refine And.intro ?_ ?_ | exact xeC | fail)
    all_goals skip
  · refine cH41cG3 (σ := [.whole 1, .whole 2, .whole 3, .whole 4]) (nl := []) (cTopics b X c hB hX) ?_ (hle := by (repeat' first | refine And.intro ?_ ?_ | exact xeC | fail) <;> exact xmC2)
    rw [aw_top hR]
    rintro v h' ⟨c4, rfl, rfl⟩ hcaps
    refine rH41cG0 ?_
    repeat' (first | (fail_if_success (with_reducible refine xstp ?_)); first | ((with_reducible refine And.intro (fun (hb : _ = true) => ?_) (fun (hb : _ = false) => ?_)) <;> replace hb := xnC hb <;> (try first | exact xfC | exact bff hb (by assumption) | exact bff (by assumption) hb)) | (with_reducible refine Both.mk ?_ ?_) | ((with_reducible refine And.intro ?_ ?_); focus exact xoC) | ((with_reducible refine Or.inl ⟨?_, ?_, ?_⟩); (focus rfl); focus exact xaC) | ((with_reducible refine xwB ?_ ?_); focus exact xaC) | ((with_reducible refine xwC ?_ ?_); focus exact xaC) | ((with_reducible refine xwD ?_ ?_); focus exact xaC) | ((with_reducible refine xwE ?_ ?_); focus exact xaC) | (with_reducible intro hc; (try simp only [capsP, and_true] at hc); (try exact xfC)) | ((fail_if_success (with_reducible first | refine xgon ?_ | intro _)); (conv => whnf); (fail_if_success (fail_if_success (with_reducible first | refine xstp ?_ | refine Both.mk ?_ ?_ | refine xgon ?_ | intro _)))))
    refine cH41cG3 (σ := [.whole 8, .whole 7]) (nl := []) (ctexts true true [[97], [98]] [[97], [98]] c4 2 (by decide)) ?_ (hle := by (repeat' first | refine And.intro ?_ ?_ | exact xeC | fail) <;> exact st_row rfl rfl)
    rw [decide_eq_true rfl]
    rintro v h' ⟨rfl, rfl⟩ hcaps
    refine rH41cG0 ?_
    repeat' (first | (fail_if_success (with_reducible refine xstp ?_)); first | ((with_reducible refine And.intro (fun (hb : _ = true) => ?_) (fun (hb : _ = false) => ?_)) <;> replace hb := xnC hb <;> (try first | exact xfC | exact bff hb (by assumption) | exact bff (by assumption) hb)) | (with_reducible refine Both.mk ?_ ?_) | ((with_reducible refine And.intro ?_ ?_); focus exact xoC) | ((with_reducible refine Or.inl ⟨?_, ?_, ?_⟩); (focus rfl); focus exact xaC) | ((with_reducible refine xwB ?_ ?_); focus exact xaC) | ((with_reducible refine xwC ?_ ?_); focus exact xaC) | ((with_reducible refine xwD ?_ ?_); focus exact xaC) | ((with_reducible refine xwE ?_ ?_); focus exact xaC) | (with_reducible intro hc; (try simp only [capsP, and_true] at hc); (try exact xfC)) | ((fail_if_success (with_reducible first | refine xgon ?_ | intro _)); (conv => whnf); (fail_if_success (fail_if_success (with_reducible first | refine xstp ?_ | refine Both.mk ?_ ?_ | refine xgon ?_ | intro _)))))
    refine cH41cG3 (σ := [.whole 1, .whole 2, .whole 3, .whole 4]) (nl := []) (cCount b X c [97] hB hX) ?_ (hle := by (repeat' first | refine And.intro ?_ ?_ | exact xeC | fail) <;> exact xmC2)
    rw [hR.cn, show cntQ awL [97] = 2 by decide]
    rintro v h' ⟨rfl, rfl⟩ hcaps
    refine rH41cG0 ?_
    repeat' (first | (fail_if_success (with_reducible refine xstp ?_)); first | ((with_reducible refine And.intro (fun (hb : _ = true) => ?_) (fun (hb : _ = false) => ?_)) <;> replace hb := xnC hb <;> (try first | exact xfC | exact bff hb (by assumption) | exact bff (by assumption) hb)) | (with_reducible refine Both.mk ?_ ?_) | ((with_reducible refine And.intro ?_ ?_); focus exact xoC) | ((with_reducible refine Or.inl ⟨?_, ?_, ?_⟩); (focus rfl); focus exact xaC) | ((with_reducible refine xwB ?_ ?_); focus exact xaC) | ((with_reducible refine xwC ?_ ?_); focus exact xaC) | ((with_reducible refine xwD ?_ ?_); focus exact xaC) | ((with_reducible refine xwE ?_ ?_); focus exact xaC) | (with_reducible intro hc; (try simp only [capsP, and_true] at hc); (try exact xfC)) | ((fail_if_success (with_reducible first | refine xgon ?_ | intro _)); (conv => whnf); (fail_if_success (fail_if_success (with_reducible first | refine xstp ?_ | refine Both.mk ?_ ?_ | refine xgon ?_ | intro _)))))
    refine cH41cG3 (σ := [.whole 1, .whole 2, .whole 3, .whole 4]) (nl := []) (cCount b X c [] hB hX) ?_ (hle := by (repeat' first | refine And.intro ?_ ?_ | exact xeC | fail) <;> exact xmC2)
    rw [hR.cn, show cntQ awL [] = 3 by decide]
    rintro v h' ⟨rfl, rfl⟩ hcaps
    refine rH41cG0 ?_
    repeat' (first | (fail_if_success (with_reducible refine xstp ?_)); first | ((with_reducible refine And.intro (fun (hb : _ = true) => ?_) (fun (hb : _ = false) => ?_)) <;> replace hb := xnC hb <;> (try first | exact xfC | exact bff hb (by assumption) | exact bff (by assumption) hb)) | (with_reducible refine Both.mk ?_ ?_) | ((with_reducible refine And.intro ?_ ?_); focus exact xoC) | ((with_reducible refine Or.inl ⟨?_, ?_, ?_⟩); (focus rfl); focus exact xaC) | ((with_reducible refine xwB ?_ ?_); focus exact xaC) | ((with_reducible refine xwC ?_ ?_); focus exact xaC) | ((with_reducible refine xwD ?_ ?_); focus exact xaC) | ((with_reducible refine xwE ?_ ?_); focus exact xaC) | (with_reducible intro hc; (try simp only [capsP, and_true] at hc); (try exact xfC)) | ((fail_if_success (with_reducible first | refine xgon ?_ | intro _)); (conv => whnf); (fail_if_success (fail_if_success (with_reducible first | refine xstp ?_ | refine Both.mk ?_ ?_ | refine xgon ?_ | intro _)))))
    refine cH41cG3 (σ := [.whole 5, .whole 0]) (nl := []) (cSame true true [⟨5, [97], [120]⟩] awL c3 3 1 (by decide) (by decide)) ?_
    rw [decide_eq_true (p := [⟨5, [97], [120]⟩] = awL.take 1) rfl]
    rintro v h' ⟨rfl, rfl⟩ hcaps
    refine rH41cG0 ?_
    repeat' (first | (fail_if_success (with_reducible refine xstp ?_)); first | ((with_reducible refine And.intro (fun (hb : _ = true) => ?_) (fun (hb : _ = false) => ?_)) <;> replace hb := xnC hb <;> (try first | exact xfC | exact bff hb (by assumption) | exact bff (by assumption) hb)) | (with_reducible refine Both.mk ?_ ?_) | ((with_reducible refine And.intro ?_ ?_); focus exact xoC) | ((with_reducible refine Or.inl ⟨?_, ?_, ?_⟩); (focus rfl); focus exact xaC) | ((with_reducible refine xwB ?_ ?_); focus exact xaC) | ((with_reducible refine xwC ?_ ?_); focus exact xaC) | ((with_reducible refine xwD ?_ ?_); focus exact xaC) | ((with_reducible refine xwE ?_ ?_); focus exact xaC) | (with_reducible intro hc; (try simp only [capsP, and_true] at hc); (try exact xfC)) | ((fail_if_success (with_reducible first | refine xgon ?_ | intro _)); (conv => whnf); (fail_if_success (fail_if_success (with_reducible first | refine xstp ?_ | refine Both.mk ?_ ?_ | refine xgon ?_ | intro _)))))
    · refine FinK.mk ⟨[], _, _, ⟨rfl, rfl⟩, ?_⟩
      (repeat' first | refine And.intro ?_ ?_ | exact xeC | fail)
    all_goals skip
end Go.Proofs.Ytkjkbpnhocjenaa
namespace Go.Proofs.Ytkjkbpnhocjenaa
open Go.X
set_option linter.unusedSimpArgs false
set_option linter.unusedVariables false
open P4
open P5
theorem talA_len (t : List UInt8) (n : Nat) : ∀ U : List Tl, (talA U t n).length ≤ U.length + 1
  | [] => Nat.le_refl _
  | (u, m) :: U => by
    have ih := talA_len t n U
    unfold talA
    split
    · simp
    · split
      · simp
      · simp only [List.length_cons]; omega
theorem foldT_len (F : List Tl) : (foldT F).length ≤ F.length := by
  suffices ∀ k, k ≤ F.length → (foldT (F.take k)).length ≤ k by
    have := this F.length (Nat.le_refl _)
    rwa [List.take_length] at this
  intro k
  induction k with
  | zero => intro _; simp [foldT]
  | succ k ih =>
    intro hk
    rw [take_snocG F (by omega), foldT_snoc]
    have := ih (by omega)
    have := talA_len (F.getD k default).1 (F.getD k default).2 (foldT (F.take k))
    omega
theorem top_len {b : Bg} (h : BOk b) : (topB b).length ≤ 1000000 := by
  have := foldT_len (flatT b)
  have := h.flat
  unfold topB
  rw [List.length_map, allT_eq]
  omega
theorem cntQ_L {A : List Rc} {t : List UInt8} (h : t ≠ []) : cntQ A t = cntL A t := by
  unfold cntQ cntL
  congr 1
  apply List.filter_congr
  intro r _
  by_cases q : r.tp = t
  · simp [q]
  · simp [q, h]
structure TpU (A : List Rc) (U : List (List UInt8)) : Prop where
  len : U.length ≤ 1000000
  srt : U.Pairwise (· < ·)
  mem : ∀ t, t ∈ U ↔ t ∈ A.map Rc.tp
theorem TpU.at {A : List Rc} {U : List (List UInt8)} (h : TpU A U) (hA : AOk A) {i : Nat} (hi : i < U.length) : 0 < cntL A (U.getD i default) ∧ cntQ A (U.getD i default) = cntL A (U.getD i default) ∧ (0 < i → U.getD (i - 1) default < U.getD i default) := by
  obtain ⟨r, hr, e⟩ := List.mem_map.1 ((h.mem _).1 (mem_getD hi))
  refine ⟨?_, cntQ_L ?_, fun h0 => ?_⟩
  · unfold cntL
    exact List.length_pos_of_mem (List.mem_filter.2 ⟨hr, by simpa using e⟩)
  · rw [← e]
    intro q
    have := (hA.ok r hr).1.1.1
    rw [q] at this
    exact absurd this (by decide)
  · have := List.pairwise_iff_getElem.1 h.srt (i - 1) i (by omega) hi (by omega)
    rw [getD_at (show i - 1 < U.length by omega), getD_at hi]
    exact this
end Go.Proofs.Ytkjkbpnhocjenaa
namespace Go.Proofs.Ytkjkbpnhocjenaa
open Go.X
set_option linter.unusedSimpArgs false
set_option linter.unusedVariables false
open P4
open P5
theorem le8_drop : ∀ (l : List UInt8) (j : Nat), le8 (l.drop j) ≤ le8 l
  | _, 0 => Nat.le_refl _
  | [], j + 1 => by simp [le8]
  | b :: l, j + 1 => by
    have := le8_drop l j
    rw [List.drop_succ_cons, le8_cons]
    omega
set_option maxRecDepth 10000 in
theorem coffset (p : List UInt8) (h8 : p.length = 8) :
    Ctr Try.prog 50 [.c (.s (mkS p))] [] fun v h => (∃ z : Int, v = .c (.i .i64 z) ∧ (z = le8 p ∨ (z = -1 ∧ 1099511627776 < le8 p))) ∧ h = [] := by
  have hz8 : (mkS p).size = 8 := h8
  refine Ctr.mk' tbv mixed Try.func50 rfl rfl rfl (fun _ _ => by kernel_rfl) (by kernel_rfl) (by rfl) (by rfl) (by (repeat' first | refine And.intro ?_ ?_ | exact xeC | fail)) ?_
  repeat' (first | (fail_if_success (with_reducible refine xstp ?_)); first | ((with_reducible refine And.intro (fun (hb : _ = true) => ?_) (fun (hb : _ = false) => ?_)) <;> replace hb := xnC hb <;> (try first | exact xfC | exact bff hb (by assumption) | exact bff (by assumption) hb)) | (with_reducible refine Both.mk ?_ ?_) | ((with_reducible refine And.intro ?_ ?_); focus exact xoC) | ((with_reducible refine Or.inl ⟨?_, ?_, ?_⟩); (focus rfl); focus exact xaC) | ((with_reducible refine xwB ?_ ?_); focus exact xaC) | ((with_reducible refine xwC ?_ ?_); focus exact xaC) | ((with_reducible refine xwD ?_ ?_); focus exact xaC) | ((with_reducible refine xwE ?_ ?_); focus exact xaC) | (with_reducible intro hc; (try simp only [capsP, and_true] at hc); (try exact xfC)) | ((fail_if_success (with_reducible first | refine xgon ?_ | intro _)); (conv => whnf); (fail_if_success (fail_if_success (with_reducible first | refine xstp ?_ | refine Both.mk ?_ ?_ | refine xgon ?_ | intro _)))))
  refine LoopK.mk' {j : Nat // j ≤ 8}
    (fun ⟨j, _⟩ => ⟨[(0, .c (.s (mkS p))), (3, .c (.i .i64 (le8 (p.drop j) : Nat))), (4, .c (.i .i64 ((j : Int) - 1)))], []⟩) (fun j => j.1)
    ⟨⟨8, Nat.le_refl _⟩, [], ?_⟩ ?_
  · (repeat' first | refine And.intro ?_ ?_ | exact xeC | fail)
    rw [List.drop_of_length_le (by omega)]
    rfl
  rintro ⟨j, hj⟩
  have hdr := le8_drop p j
  cases j with
  | succ k =>
    have hdk := drop_consG p (k := k) (by omega)
    have ek : (((k + 1 : Nat) : Int) - 1).toNat = k := by omega
    have hby : ((p.getD k default).toNat : Int) ≤ 255 := by have := (p.getD k default).toNat_lt; omega
    have hgb : (mkS p).get! k = p.getD k default := getB (by omega)
    have hw : IntKind.i64.wrap (((mkS p).get! (((k + 1 : Nat) : Int) - 1).toNat).toNat : Int) = ((p.getD k default).toNat : Int) := by
      rw [ek, hgb, IntKind.wrap_i64]
      omega
    repeat' (first | (fail_if_success (with_reducible refine xstp ?_)); first | ((with_reducible refine And.intro (fun (hb : _ = true) => ?_) (fun (hb : _ = false) => ?_)) <;> replace hb := xnC hb <;> (try first | exact xfC | exact bff hb (by assumption) | exact bff (by assumption) hb)) | (with_reducible refine Both.mk ?_ ?_) | ((with_reducible refine And.intro ?_ ?_); focus exact xoC) | ((with_reducible refine Or.inl ⟨?_, ?_, ?_⟩); (focus rfl); focus exact xaC) | ((with_reducible refine xwB ?_ ?_); focus exact xaC) | ((with_reducible refine xwC ?_ ?_); focus exact xaC) | ((with_reducible refine xwD ?_ ?_); focus exact xaC) | ((with_reducible refine xwE ?_ ?_); focus exact xaC) | (with_reducible intro hc; (try simp only [capsP, and_true] at hc); (try exact xfC)) | ((fail_if_success (with_reducible first | refine xgon ?_ | intro _)); (conv => whnf); (fail_if_success (fail_if_success (with_reducible first | refine xstp ?_ | refine Both.mk ?_ ?_ | refine xgon ?_ | intro _)))))
    · refine FinK.mk ⟨[], _, _, ⟨⟨-1, rfl, .inr ⟨rfl, by omega⟩⟩, rfl⟩, ?_⟩
      (repeat' first | refine And.intro ?_ ?_ | exact xeC | fail)
    · refine ⟨⟨k, by omega⟩, [], by simp only; omega, ?_⟩
      (repeat' first | refine And.intro ?_ ?_ | exact xeC | fail)
      all_goals first
        | (rw [hw, hdk, le8_cons]; omega)
        | omega
  | zero =>
    repeat' (first | (fail_if_success (with_reducible refine xstp ?_)); first | ((with_reducible refine And.intro (fun (hb : _ = true) => ?_) (fun (hb : _ = false) => ?_)) <;> replace hb := xnC hb <;> (try first | exact xfC | exact bff hb (by assumption) | exact bff (by assumption) hb)) | (with_reducible refine Both.mk ?_ ?_) | ((with_reducible refine And.intro ?_ ?_); focus exact xoC) | ((with_reducible refine Or.inl ⟨?_, ?_, ?_⟩); (focus rfl); focus exact xaC) | ((with_reducible refine xwB ?_ ?_); focus exact xaC) | ((with_reducible refine xwC ?_ ?_); focus exact xaC) | ((with_reducible refine xwD ?_ ?_); focus exact xaC) | ((with_reducible refine xwE ?_ ?_); focus exact xaC) | (with_reducible intro hc; (try simp only [capsP, and_true] at hc); (try exact xfC)) | ((fail_if_success (with_reducible first | refine xgon ?_ | intro _)); (conv => whnf); (fail_if_success (fail_if_success (with_reducible first | refine xstp ?_ | refine Both.mk ?_ ?_ | refine xgon ?_ | intro _)))))
    rw [List.drop_zero]
    refine FinK.mk ⟨[], _, _, ⟨⟨le8 p, rfl, .inl rfl⟩, rfl⟩, ?_⟩
    (repeat' first | refine And.intro ?_ ?_ | exact xeC | fail)
structure Er where
  (e : En) (cap : Nat)
deriving Inhabited
def encEr (F : Nat) (X : List Er) (k : Nat) : List C := [.i .i64 ((X.getD k default).e.off : Nat), .i .i64 ((X.getD k default).e.fi : Nat), .i .i64 ((X.getD k default).e.la : Nat), .sl F k 2 0 (X.getD k default).e.T.length (X.getD k default).cap]
abbrev erR (F : Nat) (X : List Er) (c : Nat) : Ck := .row true true 102 4 X.length c (encEr F X)
def trC (y : Er) : Ck := tlR true y.e.T y.cap
theorem trF : FlatR trC := fun _ => ⟨_, _, _, _, _, _, rfl⟩
abbrev trG (X : List Er) (k : Nat) : Ck := ixG trC X k
theorem trG_rk (σ : List Sg) (N : Nat) (X : List Er) (x : Nat) : (trG X x).rk σ N = trG X x := ixG_rk trF σ N X x
def okEn (e : En) : Prop := (1 ≤ e.T.length ∧ e.fi ≤ e.la) ∧ okTs e.T
instance (e : En) : Decidable (okEn e) := by unfold okEn; infer_instance
end Go.Proofs.Ytkjkbpnhocjenaa
namespace Go.Proofs.Ytkjkbpnhocjenaa
open Go.X
set_option linter.unusedSimpArgs false
set_option linter.unusedVariables false
open P4
open P5
theorem okTs_snoc {U : List Tl} {t : Tl} : okTs (U ++ [t]) ↔ okTs U ∧ isT t.1 ∧ (0 < U.length → (U.getD (U.length - 1) default).1 < t.1) ∧ 1 ≤ t.2 := by
  have g1 : ∀ i, i < U.length → (U ++ [t]).getD i default = U.getD i default := fun i hi => by simp [List.getD, List.getElem?_append_left hi]
  have g2 : (U ++ [t]).getD U.length default = t := by simp [List.getD]
  constructor
  · intro h
    refine ⟨fun i hi => ?_, ?_⟩
    · have := h i (by rw [List.length_append]; omega)
      unfold okT1 at this ⊢
      rw [g1 i hi] at this
      refine ⟨this.1, fun h0 => ?_, this.2.2⟩
      have h2 := this.2.1 h0
      rw [g1 (i - 1) (by omega)] at h2
      exact h2
    · have := h U.length (by rw [List.length_append, List.length_singleton]; omega)
      unfold okT1 at this
      rw [g2] at this
      refine ⟨this.1, fun h0 => ?_, this.2.2⟩
      have h2 := this.2.1 h0
      rw [g1 (U.length - 1) (by omega)] at h2
      exact h2
  · rintro ⟨h1, h2, h3, h4⟩ i hi
    rw [List.length_append, List.length_singleton] at hi
    unfold okT1
    rcases Nat.lt_or_ge i U.length with q | q
    · rw [g1 i q]
      have := h1 i q
      unfold okT1 at this
      refine ⟨this.1, fun h0 => ?_, this.2.2⟩
      rw [g1 (i - 1) (by omega)]
      exact this.2.1 h0
    · obtain rfl : i = U.length := by omega
      rw [g2]
      refine ⟨h2, fun h0 => ?_, h4⟩
      rw [g1 (U.length - 1) (by omega)]
      exact h3 h0
theorem bl_lt2 {t u : List UInt8} (h : t < u) : Op.bytesLess (mkS t).toList (mkS u).toList = true := by
  rw [show (mkS t).toList = t from ByteArray.toList_eq _, show (mkS u).toList = u from ByteArray.toList_eq _, bless]
  exact decide_eq_true h
theorem bl_lt3 {t u : List UInt8} (h : Op.bytesLess (mkS t).toList (mkS u).toList = true) : t < u := by
  rw [show (mkS t).toList = t from ByteArray.toList_eq _, show (mkS u).toList = u from ByteArray.toList_eq _, bless] at h
  exact of_decide_eq_true h
theorem okTs_nil : okTs [] := fun i hi => absurd hi (Nat.not_lt_zero i)
set_option maxRecDepth 10000 in
set_option maxHeartbeats 8000000 in
theorem centry (s : ByteArray) (a0 : Nat) (ha : a0 ≤ s.size) (hs : s.size ≤ 100000000) :
    Ctr Try.prog 84 [.a (rv s a0 0)] []
      fun v h => ∃ c', v = .t [.a (rv s (enT s a0 0).2.1 (enT s a0 0).2.2), .a [.i .i64 ((rdEn s a0 0).off : Nat), .i .i64 ((rdEn s a0 0).fi : Nat), .i .i64 ((rdEn s a0 0).la : Nat), .sl 0 0 2 0 (rdEn s a0 0).T.length c'], .c (.b (decide (1 ≤ (sm4 s a0 0).1 ∧ (rdEn s a0 0).fi ≤ (rdEn s a0 0).la ∧ okTs (rdEn s a0 0).T)))] ∧ h = [.one (tlR true (rdEn s a0 0).T c')] := by
  have hm := sm_mono (e := 0) ha
  refine Ctr.mk' tbv mixed Try.func84 rfl rfl rfl (fun _ _ => by kernel_rfl) (by kernel_rfl) (by rfl) (by rfl) (by (repeat' first | refine And.intro ?_ ?_ | exact xeC | fail)) ?_
  repeat' (first | (fail_if_success (with_reducible refine xstp ?_)); first | ((with_reducible refine And.intro (fun (hb : _ = true) => ?_) (fun (hb : _ = false) => ?_)) <;> replace hb := xnC hb <;> (try first | exact xfC | exact bff hb (by assumption) | exact bff (by assumption) hb)) | (with_reducible refine Both.mk ?_ ?_) | ((with_reducible refine And.intro ?_ ?_); focus exact xoC) | ((with_reducible refine Or.inl ⟨?_, ?_, ?_⟩); (focus rfl); focus exact xaC) | ((with_reducible refine xwB ?_ ?_); focus exact xaC) | ((with_reducible refine xwC ?_ ?_); focus exact xaC) | ((with_reducible refine xwD ?_ ?_); focus exact xaC) | ((with_reducible refine xwE ?_ ?_); focus exact xaC) | (with_reducible intro hc; (try simp only [capsP, and_true] at hc); (try exact xfC)) | ((fail_if_success (with_reducible first | refine xgon ?_ | intro _)); (conv => whnf); (fail_if_success (fail_if_success (with_reducible first | refine xstp ?_ | refine Both.mk ?_ ?_ | refine xgon ?_ | intro _)))))
  refine xcal (σ := []) (nl := []) (cRAt s a0 0 ha hs) ?_
  rintro v h' ⟨rfl, rfl⟩ hcaps
  rw [show rdAt s a0 0 = sm1 s a0 0 from rfl]
  refine xret ?_
  repeat' (first | (fail_if_success (with_reducible refine xstp ?_)); first | ((with_reducible refine And.intro (fun (hb : _ = true) => ?_) (fun (hb : _ = false) => ?_)) <;> replace hb := xnC hb <;> (try first | exact xfC | exact bff hb (by assumption) | exact bff (by assumption) hb)) | (with_reducible refine Both.mk ?_ ?_) | ((with_reducible refine And.intro ?_ ?_); focus exact xoC) | ((with_reducible refine Or.inl ⟨?_, ?_, ?_⟩); (focus rfl); focus exact xaC) | ((with_reducible refine xwB ?_ ?_); focus exact xaC) | ((with_reducible refine xwC ?_ ?_); focus exact xaC) | ((with_reducible refine xwD ?_ ?_); focus exact xaC) | ((with_reducible refine xwE ?_ ?_); focus exact xaC) | (with_reducible intro hc; (try simp only [capsP, and_true] at hc); (try exact xfC)) | ((fail_if_success (with_reducible first | refine xgon ?_ | intro _)); (conv => whnf); (fail_if_success (fail_if_success (with_reducible first | refine xstp ?_ | refine Both.mk ?_ ?_ | refine xgon ?_ | intro _)))))
  refine xcal (σ := []) (nl := []) (cRAt s (sm1 s a0 0).2.1 (sm1 s a0 0).2.2 hm.1 hs) ?_
  rintro v h' ⟨rfl, rfl⟩ hcaps
  rw [show rdAt s (sm1 s a0 0).2.1 (sm1 s a0 0).2.2 = sm2 s a0 0 from rfl]
  refine xret ?_
  repeat' (first | (fail_if_success (with_reducible refine xstp ?_)); first | ((with_reducible refine And.intro (fun (hb : _ = true) => ?_) (fun (hb : _ = false) => ?_)) <;> replace hb := xnC hb <;> (try first | exact xfC | exact bff hb (by assumption) | exact bff (by assumption) hb)) | (with_reducible refine Both.mk ?_ ?_) | ((with_reducible refine And.intro ?_ ?_); focus exact xoC) | ((with_reducible refine Or.inl ⟨?_, ?_, ?_⟩); (focus rfl); focus exact xaC) | ((with_reducible refine xwB ?_ ?_); focus exact xaC) | ((with_reducible refine xwC ?_ ?_); focus exact xaC) | ((with_reducible refine xwD ?_ ?_); focus exact xaC) | ((with_reducible refine xwE ?_ ?_); focus exact xaC) | (with_reducible intro hc; (try simp only [capsP, and_true] at hc); (try exact xfC)) | ((fail_if_success (with_reducible first | refine xgon ?_ | intro _)); (conv => whnf); (fail_if_success (fail_if_success (with_reducible first | refine xstp ?_ | refine Both.mk ?_ ?_ | refine xgon ?_ | intro _)))))
  refine xcal (σ := []) (nl := []) (cRAt s (sm2 s a0 0).2.1 (sm2 s a0 0).2.2 hm.2.1 hs) ?_
  rintro v h' ⟨rfl, rfl⟩ hcaps
  rw [show rdAt s (sm2 s a0 0).2.1 (sm2 s a0 0).2.2 = sm3 s a0 0 from rfl]
  refine xret ?_
  repeat' (first | (fail_if_success (with_reducible refine xstp ?_)); first | ((with_reducible refine And.intro (fun (hb : _ = true) => ?_) (fun (hb : _ = false) => ?_)) <;> replace hb := xnC hb <;> (try first | exact xfC | exact bff hb (by assumption) | exact bff (by assumption) hb)) | (with_reducible refine Both.mk ?_ ?_) | ((with_reducible refine And.intro ?_ ?_); focus exact xoC) | ((with_reducible refine Or.inl ⟨?_, ?_, ?_⟩); (focus rfl); focus exact xaC) | ((with_reducible refine xwB ?_ ?_); focus exact xaC) | ((with_reducible refine xwC ?_ ?_); focus exact xaC) | ((with_reducible refine xwD ?_ ?_); focus exact xaC) | ((with_reducible refine xwE ?_ ?_); focus exact xaC) | (with_reducible intro hc; (try simp only [capsP, and_true] at hc); (try exact xfC)) | ((fail_if_success (with_reducible first | refine xgon ?_ | intro _)); (conv => whnf); (fail_if_success (fail_if_success (with_reducible first | refine xstp ?_ | refine Both.mk ?_ ?_ | refine xgon ?_ | intro _)))))
  refine xcal (σ := []) (nl := []) (cRAt s (sm3 s a0 0).2.1 (sm3 s a0 0).2.2 hm.2.2.1 hs) ?_
  rintro v h' ⟨rfl, rfl⟩ hcaps
  rw [show rdAt s (sm3 s a0 0).2.1 (sm3 s a0 0).2.2 = sm4 s a0 0 from rfl]
  refine xret ?_
  have hT : (rdEn s a0 0).T = (tlN s (sm4 s a0 0).1 (sm4 s a0 0).2.1 (sm4 s a0 0).2.2).1 := rfl
  have hE : enT s a0 0 = tlN s (sm4 s a0 0).1 (sm4 s a0 0).2.1 (sm4 s a0 0).2.2 := rfl
  have hoff : (rdEn s a0 0).off = (sm1 s a0 0).1 := rfl
  have hfi : (rdEn s a0 0).fi = (sm2 s a0 0).1 := rfl
  have hla : (rdEn s a0 0).la = (sm3 s a0 0).1 := rfl
  rw [hT, hE, hoff, hfi, hla]
  have hk4 : (((sm4 s a0 0).1 : Nat) : Int) ≤ 1099511627776 := rdAt_le s _ _
  have ha4 := hm.2.2.2.1
  generalize sm1 s a0 0 = q1 at *
  generalize sm2 s a0 0 = q2 at *
  generalize sm3 s a0 0 = q3 at *
  generalize sm4 s a0 0 = q4 at *
  obtain ⟨k4, a4, e4⟩ := q4
  simp only at hk4 ha4
  simp only
  repeat' (first | (fail_if_success (with_reducible refine xstp ?_)); first | ((with_reducible refine And.intro (fun (hb : _ = true) => ?_) (fun (hb : _ = false) => ?_)) <;> replace hb := xnC hb <;> (try first | exact xfC | exact bff hb (by assumption) | exact bff (by assumption) hb)) | (with_reducible refine Both.mk ?_ ?_) | ((with_reducible refine And.intro ?_ ?_); focus exact xoC) | ((with_reducible refine Or.inl ⟨?_, ?_, ?_⟩); (focus rfl); focus exact xaC) | ((with_reducible refine xwB ?_ ?_); focus exact xaC) | ((with_reducible refine xwC ?_ ?_); focus exact xaC) | ((with_reducible refine xwD ?_ ?_); focus exact xaC) | ((with_reducible refine xwE ?_ ?_); focus exact xaC) | (with_reducible intro hc; (try simp only [capsP, and_true] at hc); (try exact xfC)) | ((fail_if_success (with_reducible first | refine xgon ?_ | intro _)); (conv => whnf); (fail_if_success (fail_if_success (with_reducible first | refine xstp ?_ | refine Both.mk ?_ ?_ | refine xgon ?_ | intro _)))))
  · skip
    refine LoopK.mk' {p : Nat × Nat × Nat × List Tl × Bool × Nat // p.1 ≤ k4 ∧ TlI s k4 a4 e4 p.1 p.2.1 p.2.2.1 p.2.2.2.1 ∧ p.2.2.2.1.length + p.1 = k4 ∧ (p.2.2.2.2.1 = true ↔ 1 ≤ k4 ∧ q2.1 ≤ q3.1 ∧ okTs p.2.2.2.1)}
      (fun ⟨(k, a, e, U, ok, c), _⟩ => ⟨[(1, .c (.p 0 0 0)), (2, .c (.p 1 0 0)), (3, .c (.p 2 0 0)), (5, .c (.p 3 0 0)), (6, .c (.i .i64 (k4 : Nat))), (7, .c (.b ok)), (8, .c (.i .i64 (U.length : Nat)))],
        [.one (.cells true (rv s a e)), .one (.cells true (rv (mkS []) 0 0)), .one (.cells true [.i .i64 0, .i .i64 0, .i .i64 0, .nils]), .one (.cells true [.i .i64 (q1.1 : Nat), .i .i64 (q2.1 : Nat), .i .i64 (q3.1 : Nat), .sl 4 0 2 0 U.length c]), .one (tlR true U c)]⟩) (fun p => p.1.1)
      ⟨⟨(k4, a4, e4, [], (decide (((q2.1 : Nat) : Int) ≤ (q3.1 : Nat))), 0), Nat.le_refl _, ⟨ha4, Nat.zero_le _, rfl⟩, by simp, (by constructor; intro h; have := of_decide_eq_true h; exact ⟨by omega, by omega, okTs_nil⟩; intro h; exact decide_eq_true (by omega))⟩, [0, 1, 2, 3, 99], ?_⟩ ?_
    · (repeat' first | refine And.intro ?_ ?_ | exact xeC | fail)
      all_goals first
        | (intro i hi; exact absurd hi (Nat.not_lt_zero i))
        | skip
    rintro ⟨⟨k, a, e, U, ok, c⟩, hk, hI, hU, hok⟩
    simp only at hk hI hU hok
    have hIl := hI.le
    have hIn := hI.len
    repeat' (first | (fail_if_success (with_reducible refine xstp ?_)); first | ((with_reducible refine And.intro (fun (hb : _ = true) => ?_) (fun (hb : _ = false) => ?_)) <;> replace hb := xnC hb <;> (try first | exact xfC | exact bff hb (by assumption) | exact bff (by assumption) hb)) | (with_reducible refine Both.mk ?_ ?_) | ((with_reducible refine And.intro ?_ ?_); focus exact xoC) | ((with_reducible refine Or.inl ⟨?_, ?_, ?_⟩); (focus rfl); focus exact xaC) | ((with_reducible refine xwB ?_ ?_); focus exact xaC) | ((with_reducible refine xwC ?_ ?_); focus exact xaC) | ((with_reducible refine xwD ?_ ?_); focus exact xaC) | ((with_reducible refine xwE ?_ ?_); focus exact xaC) | (with_reducible intro hc; (try simp only [capsP, and_true] at hc); (try exact xfC)) | ((fail_if_success (with_reducible first | refine xgon ?_ | intro _)); (conv => whnf); (fail_if_success (fail_if_success (with_reducible first | refine xstp ?_ | refine Both.mk ?_ ?_ | refine xgon ?_ | intro _)))))
    · obtain ⟨k2, rfl⟩ : ∃ k2, k = k2 + 1 := ⟨k - 1, by omega⟩
      obtain rfl : e = 0 := by omega
      rw [if_pos rfl] at hIn
      have hm1 := rdT_mono (e := 0) (m := 40) hIl
      have hst := hI.step
      have htl : (tlT s a).1.length ≤ 40 := rdT_len s a 0 40
      refine xcal (σ := []) (nl := []) (cRText s a 0 40 hIl (by omega) (by omega)) ?_
      rintro v h' ⟨rfl, rfl⟩ hcaps
      rw [show rdT s a 0 40 = tlT s a from rfl]
      refine xret ?_
      repeat' (first | (fail_if_success (with_reducible refine xstp ?_)); first | ((with_reducible refine And.intro (fun (hb : _ = true) => ?_) (fun (hb : _ = false) => ?_)) <;> replace hb := xnC hb <;> (try first | exact xfC | exact bff hb (by assumption) | exact bff (by assumption) hb)) | (with_reducible refine Both.mk ?_ ?_) | ((with_reducible refine And.intro ?_ ?_); focus exact xoC) | ((with_reducible refine Or.inl ⟨?_, ?_, ?_⟩); (focus rfl); focus exact xaC) | ((with_reducible refine xwB ?_ ?_); focus exact xaC) | ((with_reducible refine xwC ?_ ?_); focus exact xaC) | ((with_reducible refine xwD ?_ ?_); focus exact xaC) | ((with_reducible refine xwE ?_ ?_); focus exact xaC) | (with_reducible intro hc; (try simp only [capsP, and_true] at hc); (try exact xfC)) | ((fail_if_success (with_reducible first | refine xgon ?_ | intro _)); (conv => whnf); (fail_if_success (fail_if_success (with_reducible first | refine xstp ?_ | refine Both.mk ?_ ?_ | refine xgon ?_ | intro _)))))
      refine xcal (σ := []) (nl := []) (cRAt s (tlT s a).2.1 (tlT s a).2.2 hm1.2 hs) ?_
      rintro v h' ⟨rfl, rfl⟩ hcaps
      rw [show rdAt s (tlT s a).2.1 (tlT s a).2.2 = tlM s a from rfl]
      refine xret ?_
      generalize tlM s a = qm at *
      generalize tlT s a = qt at *
      repeat' (first | (fail_if_success (with_reducible refine xstp ?_)); first | ((with_reducible refine And.intro (fun (hb : _ = true) => ?_) (fun (hb : _ = false) => ?_)) <;> replace hb := xnC hb <;> (try first | exact xfC | exact bff hb (by assumption) | exact bff (by assumption) hb)) | (with_reducible refine Both.mk ?_ ?_) | ((with_reducible refine And.intro ?_ ?_); focus exact xoC) | ((with_reducible refine Or.inl ⟨?_, ?_, ?_⟩); (focus rfl); focus exact xaC) | ((with_reducible refine xwB ?_ ?_); focus exact xaC) | ((with_reducible refine xwC ?_ ?_); focus exact xaC) | ((with_reducible refine xwD ?_ ?_); focus exact xaC) | ((with_reducible refine xwE ?_ ?_); focus exact xaC) | (with_reducible intro hc; (try simp only [capsP, and_true] at hc); (try exact xfC)) | ((fail_if_success (with_reducible first | refine xgon ?_ | intro _)); (conv => whnf); (fail_if_success (fail_if_success (with_reducible first | refine xstp ?_ | refine Both.mk ?_ ?_ | refine xgon ?_ | intro _)))))
      have hsn := okTs_snoc (U := U) (t := (qt.1, qm.1))
      have hsf : ¬ (isT qt.1 ∧ (0 < U.length → (U.getD (U.length - 1) default).1 < qt.1) ∧ 1 ≤ (qt.1, qm.1).2) → (false = true ↔ 1 ≤ k4 ∧ q2.1 ≤ q3.1 ∧ okTs (U ++ [(qt.1, qm.1)])) := fun h => ⟨fun q => (by cases q), fun q => absurd (hsn.1 q.2.2).2 h⟩
      have hst2 : (isT qt.1 ∧ (0 < U.length → (U.getD (U.length - 1) default).1 < qt.1) ∧ 1 ≤ (qt.1, qm.1).2) → (ok = true ↔ 1 ≤ k4 ∧ q2.1 ≤ q3.1 ∧ okTs (U ++ [(qt.1, qm.1)])) := fun h => hok.trans ⟨fun q => ⟨q.1, q.2.1, hsn.2 ⟨q.2.2, h⟩⟩, fun q => ⟨q.1, q.2.1, (hsn.1 q.2.2).1⟩⟩
      refine xcal (σ := []) (nl := []) (cisTR qt.1 (by omega)) ?_
      by_cases hit : isT qt.1
      · rw [decide_eq_true hit]
        rintro v h' ⟨rfl, rfl⟩ hcaps
        refine xret ?_
        repeat' (first | (fail_if_success (with_reducible refine xstp ?_)); first | ((with_reducible refine And.intro (fun (hb : _ = true) => ?_) (fun (hb : _ = false) => ?_)) <;> replace hb := xnC hb <;> (try first | exact xfC | exact bff hb (by assumption) | exact bff (by assumption) hb)) | (with_reducible refine Both.mk ?_ ?_) | ((with_reducible refine And.intro ?_ ?_); focus exact xoC) | ((with_reducible refine Or.inl ⟨?_, ?_, ?_⟩); (focus rfl); focus exact xaC) | ((with_reducible refine xwB ?_ ?_); focus exact xaC) | ((with_reducible refine xwC ?_ ?_); focus exact xaC) | ((with_reducible refine xwD ?_ ?_); focus exact xaC) | ((with_reducible refine xwE ?_ ?_); focus exact xaC) | (with_reducible intro hc; (try simp only [capsP, and_true] at hc); (try exact xfC)) | ((fail_if_success (with_reducible first | refine xgon ?_ | intro _)); (conv => whnf); (fail_if_success (fail_if_success (with_reducible first | refine xstp ?_ | refine Both.mk ?_ ?_ | refine xgon ?_ | intro _)))))
        · skip
          rename_i c2
          refine ⟨⟨(k2, qm.2.1, qm.2.2, U ++ [(qt.1, qm.1)], false, c2), by omega, hst, by rw [List.length_append, List.length_singleton]; omega, (hsf fun q => by have := q.2.2; simp only at this; omega)⟩, [0, 1, 2, 3, 7], by simp only; omega, ?_⟩
          (repeat' first | refine And.intro ?_ ?_ | exact xeC | fail)
          all_goals first | omega | (simp only [List.length_append, List.length_singleton]; done) | (rw [List.length_append, List.length_singleton]; omega) | (intro i hi; (first | refine app_rowG _ _ _ _ ?_ i hi | refine app_row _ _ _ ?_ i hi); first | rfl | (simp only [Int.toNat_natCast, Nat.zero_add]; rfl))
        · skip
          rename_i c2
          refine ⟨⟨(k2, qm.2.1, qm.2.2, U ++ [(qt.1, qm.1)], false, c2), by omega, hst, by rw [List.length_append, List.length_singleton]; omega, (hsf fun q => by have h9 := bl_lt2 (q.2.1 (by omega)); rw [show U.length - 1 = ((U.length : Int) - 1).toNat by omega, hb] at h9; cases h9)⟩, [0, 1, 2, 3, 7], by simp only; omega, ?_⟩
          (repeat' first | refine And.intro ?_ ?_ | exact xeC | fail)
          all_goals first | omega | (simp only [List.length_append, List.length_singleton]; done) | (rw [List.length_append, List.length_singleton]; omega) | (intro i hi; (first | refine app_rowG _ _ _ _ ?_ i hi | refine app_row _ _ _ ?_ i hi); first | rfl | (simp only [Int.toNat_natCast, Nat.zero_add]; rfl))
        · skip
          rename_i c2
          refine ⟨⟨(k2, qm.2.1, qm.2.2, U ++ [(qt.1, qm.1)], ok, c2), by omega, hst, by rw [List.length_append, List.length_singleton]; omega, (hst2 ⟨hit, fun _ => bl_lt3 (by rw [show U.length - 1 = ((U.length : Int) - 1).toNat by omega]; assumption), by simp only; omega⟩)⟩, [0, 1, 2, 3, 7], by simp only; omega, ?_⟩
          (repeat' first | refine And.intro ?_ ?_ | exact xeC | fail)
          all_goals first | omega | (simp only [List.length_append, List.length_singleton]; done) | (rw [List.length_append, List.length_singleton]; omega) | (intro i hi; (first | refine app_rowG _ _ _ _ ?_ i hi | refine app_row _ _ _ ?_ i hi); first | rfl | (simp only [Int.toNat_natCast, Nat.zero_add]; rfl))
        · skip
          rename_i c2
          refine ⟨⟨(k2, qm.2.1, qm.2.2, U ++ [(qt.1, qm.1)], ok, c2), by omega, hst, by rw [List.length_append, List.length_singleton]; omega, (hst2 ⟨hit, fun h => by omega, by simp only; omega⟩)⟩, [0, 1, 2, 3, 7], by simp only; omega, ?_⟩
          (repeat' first | refine And.intro ?_ ?_ | exact xeC | fail)
          all_goals first | omega | (simp only [List.length_append, List.length_singleton]; done) | (rw [List.length_append, List.length_singleton]; omega) | (intro i hi; (first | refine app_rowG _ _ _ _ ?_ i hi | refine app_row _ _ _ ?_ i hi); first | rfl | (simp only [Int.toNat_natCast, Nat.zero_add]; rfl))
      · rw [decide_eq_false hit]
        rintro v h' ⟨rfl, rfl⟩ hcaps
        refine xret ?_
        repeat' (first | (fail_if_success (with_reducible refine xstp ?_)); first | ((with_reducible refine And.intro (fun (hb : _ = true) => ?_) (fun (hb : _ = false) => ?_)) <;> replace hb := xnC hb <;> (try first | exact xfC | exact bff hb (by assumption) | exact bff (by assumption) hb)) | (with_reducible refine Both.mk ?_ ?_) | ((with_reducible refine And.intro ?_ ?_); focus exact xoC) | ((with_reducible refine Or.inl ⟨?_, ?_, ?_⟩); (focus rfl); focus exact xaC) | ((with_reducible refine xwB ?_ ?_); focus exact xaC) | ((with_reducible refine xwC ?_ ?_); focus exact xaC) | ((with_reducible refine xwD ?_ ?_); focus exact xaC) | ((with_reducible refine xwE ?_ ?_); focus exact xaC) | (with_reducible intro hc; (try simp only [capsP, and_true] at hc); (try exact xfC)) | ((fail_if_success (with_reducible first | refine xgon ?_ | intro _)); (conv => whnf); (fail_if_success (fail_if_success (with_reducible first | refine xstp ?_ | refine Both.mk ?_ ?_ | refine xgon ?_ | intro _)))))
        rename_i c2
        refine ⟨⟨(k2, qm.2.1, qm.2.2, U ++ [(qt.1, qm.1)], false, c2), by omega, hst, by rw [List.length_append, List.length_singleton]; omega, (hsf fun q => hit q.1)⟩, [0, 1, 2, 3, 7], by simp only; omega, ?_⟩
        (repeat' first | refine And.intro ?_ ?_ | exact xeC | fail)
        all_goals first | omega | (simp only [List.length_append, List.length_singleton]; done) | (rw [List.length_append, List.length_singleton]; omega) | (intro i hi; (first | refine app_rowG _ _ _ _ ?_ i hi | refine app_row _ _ _ ?_ i hi); first | rfl | (simp only [Int.toNat_natCast, Nat.zero_add]; rfl))
    all_goals (
      have hq := hI.q
      rw [tlN_stop (s := s) (k := k) (a := a) (e := e) (by omega)] at hq
      simp only [List.append_nil] at hq
      have hod : decide (1 ≤ k4 ∧ q2.1 ≤ q3.1 ∧ okTs U) = ok := by
        cases ok with
        | true => exact decide_eq_true (hok.1 rfl)
        | false => exact decide_eq_false (fun q => by have := hok.2 q; cases this)
      rw [hq]
      simp only
      rw [hod]
      refine FinK.mk ⟨[4], _, _, ⟨c, rfl, rfl⟩, ?_⟩
      (repeat' first | refine And.intro ?_ ?_ | exact xeC | fail)
      )
  · skip
    refine LoopK.mk' {p : Nat × Nat × Nat × List Tl × Bool × Nat // p.1 ≤ k4 ∧ TlI s k4 a4 e4 p.1 p.2.1 p.2.2.1 p.2.2.2.1 ∧ p.2.2.2.1.length + p.1 = k4 ∧ (p.2.2.2.2.1 = true ↔ 1 ≤ k4 ∧ q2.1 ≤ q3.1 ∧ okTs p.2.2.2.1)}
      (fun ⟨(k, a, e, U, ok, c), _⟩ => ⟨[(1, .c (.p 0 0 0)), (2, .c (.p 1 0 0)), (3, .c (.p 2 0 0)), (5, .c (.p 3 0 0)), (6, .c (.i .i64 (k4 : Nat))), (7, .c (.b ok)), (8, .c (.i .i64 (U.length : Nat)))],
        [.one (.cells true (rv s a e)), .one (.cells true (rv (mkS []) 0 0)), .one (.cells true [.i .i64 0, .i .i64 0, .i .i64 0, .nils]), .one (.cells true [.i .i64 (q1.1 : Nat), .i .i64 (q2.1 : Nat), .i .i64 (q3.1 : Nat), .sl 4 0 2 0 U.length c]), .one (tlR true U c)]⟩) (fun p => p.1.1)
      ⟨⟨(k4, a4, e4, [], false, 0), Nat.le_refl _, ⟨ha4, Nat.zero_le _, rfl⟩, by simp, (by constructor; intro h; cases h; intro h; omega)⟩, [0, 1, 2, 3, 99], ?_⟩ ?_
    · (repeat' first | refine And.intro ?_ ?_ | exact xeC | fail)
      all_goals first
        | (intro i hi; exact absurd hi (Nat.not_lt_zero i))
        | skip
    rintro ⟨⟨k, a, e, U, ok, c⟩, hk, hI, hU, hok⟩
    simp only at hk hI hU hok
    have hIl := hI.le
    have hIn := hI.len
    repeat' (first | (fail_if_success (with_reducible refine xstp ?_)); first | ((with_reducible refine And.intro (fun (hb : _ = true) => ?_) (fun (hb : _ = false) => ?_)) <;> replace hb := xnC hb <;> (try first | exact xfC | exact bff hb (by assumption) | exact bff (by assumption) hb)) | (with_reducible refine Both.mk ?_ ?_) | ((with_reducible refine And.intro ?_ ?_); focus exact xoC) | ((with_reducible refine Or.inl ⟨?_, ?_, ?_⟩); (focus rfl); focus exact xaC) | ((with_reducible refine xwB ?_ ?_); focus exact xaC) | ((with_reducible refine xwC ?_ ?_); focus exact xaC) | ((with_reducible refine xwD ?_ ?_); focus exact xaC) | ((with_reducible refine xwE ?_ ?_); focus exact xaC) | (with_reducible intro hc; (try simp only [capsP, and_true] at hc); (try exact xfC)) | ((fail_if_success (with_reducible first | refine xgon ?_ | intro _)); (conv => whnf); (fail_if_success (fail_if_success (with_reducible first | refine xstp ?_ | refine Both.mk ?_ ?_ | refine xgon ?_ | intro _)))))
    all_goals (
      have hq := hI.q
      rw [tlN_stop (s := s) (k := k) (a := a) (e := e) (by omega)] at hq
      simp only [List.append_nil] at hq
      have hod : decide (1 ≤ k4 ∧ q2.1 ≤ q3.1 ∧ okTs U) = ok := by
        cases ok with
        | true => exact decide_eq_true (hok.1 rfl)
        | false => exact decide_eq_false (fun q => by have := hok.2 q; cases this)
      rw [hq]
      simp only
      rw [hod]
      refine FinK.mk ⟨[4], _, _, ⟨c, rfl, rfl⟩, ?_⟩
      (repeat' first | refine And.intro ?_ ?_ | exact xeC | fail)
      )
end Go.Proofs.Ytkjkbpnhocjenaa
namespace Go.Proofs.Ytkjkbpnhocjenaa
open Go.X
set_option linter.unusedSimpArgs false
set_option linter.unusedVariables false
open P4
open P5
theorem xmT {p : Prop} (h : p := by first | exact fun _ => trivial | exact fun x => ixG_le trF | exact fun x => ixG_bel trF | exact fun x => ixG_belR trF | fail) : p := h
abbrev ers (X : List Er) : List En := X.map Er.e
theorem ers_snoc (X : List Er) (y : Er) : ers (X ++ [y]) = ers X ++ [y.e] := by simp [ers]
theorem getErs (X : List Er) (i : Nat) : (ers X).getD i default = (X.getD i default).e := by
  simp only [ers, List.getD, List.getElem?_map]
  cases X[i]? <;> rfl
theorem erApp {σ : List Sg} {F F' G : Nat} {X : List Er} {y : Er} {g : Nat → List C} (hk : ∀ i, i ≠ X.length → key σ 0 F' i = (F, i)) (hn : key σ 0 F' X.length = (G, 0))
    (hg : g 0 = [.i .i64 (y.e.off : Nat), .i .i64 (y.e.fi : Nat), .i .i64 (y.e.la : Nat), .sl G 0 2 0 y.e.T.length y.cap]) : ∀ i, i < (X ++ [y]).length → appF X.length (encEr F X) 0 g i = List.map (C.rk σ 0) (encEr F' (X ++ [y]) i) := by
  intro i hi
  unfold appF
  by_cases h : i < X.length
  · rw [if_pos h]
    have e : (X ++ [y]).getD i default = X.getD i default := by simp [List.getD, List.getElem?_append_left h]
    simp only [encEr, List.map_cons, List.map_nil, C.rk, e, hk i (by omega)]
  · obtain rfl : i = X.length := by simp at hi; omega
    rw [if_neg h, Nat.sub_self, hg]
    have e : (X ++ [y]).getD X.length default = y := by simp [List.getD]
    simp only [encEr, List.map_cons, List.map_nil, C.rk, e, hn]
theorem rdAt_z {s : ByteArray} {a e : Nat} (h : (rdAt s a e).2.2 ≠ 0) : (rdAt s a e).1 = 0 := by
  unfold rdAt at h ⊢
  rw [rdS_U] at h ⊢
  split
  · rename_i h1
    rw [if_pos h1] at h
    split
    · rfl
    · rename_i h2
      rw [if_neg h2] at h
      exact absurd h1 h
  · rfl
theorem tl_pos {s : ByteArray} {a e : Nat} : 1 ≤ (sm4 s a e).1 ↔ 1 ≤ (rdEn s a e).T.length := by
  have hT : (rdEn s a e).T = (tlN s (sm4 s a e).1 (sm4 s a e).2.1 (sm4 s a e).2.2).1 := rfl
  have hz : (sm4 s a e).2.2 ≠ 0 → (sm4 s a e).1 = 0 := rdAt_z
  rw [hT]
  generalize sm4 s a e = q at *
  obtain ⟨n, b, f⟩ := q
  simp only at hz ⊢
  cases n with
  | zero => simp [tlN]
  | succ n =>
    have hf : f = 0 := Decidable.of_not_not fun h => by have := hz h; omega
    unfold tlN
    rw [if_pos hf]
    simp
theorem kind2_ok {s : ByteArray} (h : (rdAt s 0 0).1 = 2) : (rdU s 0 0).1 = 2 ∧ rdAt s 0 0 = rdU s 0 0 := by
  unfold rdAt at h ⊢
  rw [rdS_U] at h ⊢
  by_cases hu : (rdU s 0 0).2.2 = 0
  · rw [if_pos hu] at h ⊢
    by_cases hq : (1099511627776 : Int) < 0 ∨ 1099511627776 < (((rdU s 0 0).1 : Nat) : Int)
    · rw [if_pos hq] at h; simp at h
    · rw [if_neg hq] at h ⊢
      exact ⟨h, rfl⟩
  · rw [if_neg hu] at h; simp at h
theorem kind2_no {s : ByteArray} (h : (rdAt s 0 0).1 ≠ 2) : ixL s = ([], false) := by
  unfold ixL
  rw [if_neg]
  intro q
  apply h
  have hu : (rdU s 0 0).2.2 = 0 := Decidable.of_not_not fun hn => by
    have := (rdU_err s 0 0 hn).1
    omega
  unfold rdAt
  rw [rdS_U, if_pos hu, if_neg (by rw [q]; omega)]
  exact q
def okEs (L : List En) (ix : Nat) : Prop := ∀ i, i < L.length → okE1 L ix i
theorem okEs_snoc {L : List En} {y : En} {ix : Nat} : okEs (L ++ [y]) ix ↔ okEs L ix ∧
    ((L.length = 0 → y.off = 5) ∧ (0 < L.length → (L.getD (L.length - 1) default).off < y.off) ∧ y.off < ix) ∧ ((0 < L.length → (L.getD (L.length - 1) default).la ≤ y.fi) ∧ y.fi ≤ y.la ∧ 1 ≤ y.T.length) ∧ okTs y.T := by
  have g1 : ∀ i, i < L.length → (L ++ [y]).getD i default = L.getD i default := fun i hi => by simp [List.getD, List.getElem?_append_left hi]
  have g2 : (L ++ [y]).getD L.length default = y := by simp [List.getD]
  have g3 : ∀ i, i < L.length → (okE1 (L ++ [y]) ix i ↔ okE1 L ix i) := fun i hi => by
    unfold okE1
    rw [g1 i hi, g1 (i - 1) (by omega)]
  have g4 : okE1 (L ++ [y]) ix L.length ↔ ((L.length = 0 → y.off = 5) ∧ (0 < L.length → (L.getD (L.length - 1) default).off < y.off) ∧ y.off < ix) ∧ ((0 < L.length → (L.getD (L.length - 1) default).la ≤ y.fi) ∧ y.fi ≤ y.la ∧ 1 ≤ y.T.length) ∧ okTs y.T := by
    unfold okE1
    rw [g2]
    rcases Nat.eq_zero_or_pos L.length with q | q
    · simp [q]
    · rw [g1 (L.length - 1) (by omega)]
  rw [← g4]
  constructor
  · intro h
    exact ⟨fun i hi => (g3 i hi).1 (h i (by rw [List.length_append]; omega)), h L.length (by rw [List.length_append, List.length_singleton]; omega)⟩
  · rintro ⟨h1, h2⟩ i hi
    rw [List.length_append, List.length_singleton] at hi
    rcases Nat.lt_or_ge i L.length with q | q
    · exact (g3 i q).2 (h1 i q)
    · obtain rfl : i = L.length := by omega
      exact h2
theorem ix_fin {s : ByteArray} {q0 : Nat × Nat × Nat} {k0 a0 e0 k a e ix : Nat} {X : List Er} (hq0 : rdAt s 0 0 = q0) (hr0 : rdAt s q0.2.1 q0.2.2 = (k0, a0, e0)) (hI : EnI s k0 a0 e0 k a e (ers X))
    (hXk : X.length + k = k0) (hst : k = 0 ∨ e ≠ 0) : ((ixL s).2 = true ∧ ordE (ixL s).1 ix ↔ q0.1 = 2 ∧ endV s a e = 0 ∧ okEs (ers X) ix ∧ (k0 = 0 → ix = 5)) ∧ (q0.1 = 2 → (ixL s).1 = ers X) := by
  have hq := hI.q
  rw [enN_stop (s := s) (k := k) (a := a) (e := e) hst] at hq
  simp only [List.append_nil] at hq
  by_cases h2 : q0.1 = 2
  · obtain ⟨h3, h4⟩ := kind2_ok (s := s) (by rw [hq0]; exact h2)
    rw [hq0] at h4
    have hx : ixL s = (ers X, decide (endV s a e = 0)) := by
      unfold ixL
      rw [if_pos h3, ← h4, hr0]
      simp only
      rw [hq]
    have hel : (ers X).length = X.length := List.length_map _
    rw [hx]
    refine ⟨?_, fun _ => rfl⟩
    simp only [decide_eq_true_iff]
    unfold ordE
    rw [hel]
    constructor
    · rintro ⟨g1, g2, g3⟩
      exact ⟨h2, g1, fun i hi => g3 i (by rw [hel] at hi; exact hi), fun h0 => g2 (by omega)⟩
    · rintro ⟨_, g1, g2, g3⟩
      refine ⟨g1, fun h0 => g3 ?_, fun i hi => g2 i (by rw [hel]; exact hi)⟩
      have he : e = 0 := Decidable.of_not_not fun h => by
        unfold endV at g1
        rw [if_neg h] at g1
        exact h g1
      omega
  · have := kind2_no (s := s) (by rw [hq0]; exact h2)
    rw [this]
    exact ⟨⟨fun h => (by cases h.1), fun h => absurd h.1 h2⟩, fun h => absurd h h2⟩
theorem rH41cX0 {σ : List Sg} {H h' : List Fam} {v : T} {K : T → List Fam → Prop} {H' : List Fam} {v' : T} {N : Nat} (hk : K v' H') (hN : H.length = N := by (try simp only [↓List.length_cons, ↓List.length_nil, Nat.reduceAdd]) <;> rfl) (h : givesF σ N H σ h' = some H' := by (try simp (maxSteps := 1000000) only [givesF, setF, updF, Fam.zeroth, Fam.rk, Ck.rk, C.rk, E.rk, T.rk, key, List.map_cons, List.map_nil, List.cons_append, List.nil_append, List.length_cons, List.length_nil, Option.map_some, Option.bind_some, Nat.reduceAdd, Nat.zero_add, Nat.add_zero, Nat.add_sub_cancel_left, Int.toNat_natCast, reps, List.all_cons, List.all_nil, C.flat, List.append_eq, Bool.not_true, Bool.and_true, Bool.or_false, Bool.or_self, Bool.not_false, List.append_nil, Bool.and_self, ↓trG_rk]) <;> rfl) (hv : v.rk σ N = v' := by (try simp only [givesF, setF, updF, Fam.zeroth, Fam.rk, Ck.rk, C.rk, E.rk, T.rk, key, List.map_cons, List.map_nil, List.cons_append, List.nil_append, List.length_cons, List.length_nil, Option.map_some, Option.bind_some, Nat.reduceAdd, Nat.zero_add, Nat.add_zero, Nat.add_sub_cancel_left, Int.toNat_natCast, reps, List.all_cons, List.all_nil, C.flat, List.append_eq, Bool.not_true, Bool.and_true, Bool.or_false, Bool.or_self, Bool.not_false, List.append_nil, Bool.and_self, ↓trG_rk]) <;> rfl) : RetG σ H h' v K := ret_mk3 hN h hv hk
theorem cH41cX1 {P : Program} {F : Nat} {args : List T} {H : List Fam} {K : T → List Fam → Prop} {σ : List Sg} {nl : List Fam} {args0 : List T} {h0 : List Fam} {Q : T → List Fam → Prop} {H2 H1 : List Fam} {N n : Nat} (hc : Ctr P F args0 h0 Q) (hk : ∀ v h', Q v h' → capsP h' → RetG σ H2 h' v K) (hap : apart σ = true := by rfl) (hnl : nl.all nilB = true := by rfl) (h1 : H ++ nl = H1 := by first | exact List.append_nil _ | ((try simp only [List.cons_append, List.nil_append]) <;> rfl)) (hN : H1.length = N := by (try simp only [↓List.length_cons, ↓List.length_nil, Nat.reduceAdd]) <;> rfl) (hn : H.length = n := by (try simp only [↓List.length_cons, ↓List.length_nil, Nat.reduceAdd]) <;> rfl) (hH : givesF σ N H1 σ h0 = some H2 := by (try simp (maxSteps := 1000000) only [givesF, setF, updF, Fam.zeroth, Fam.rk, Ck.rk, C.rk, E.rk, T.rk, key, List.map_cons, List.map_nil, List.cons_append, List.nil_append, List.length_cons, List.length_nil, Option.map_some, Option.bind_some, Nat.reduceAdd, Nat.zero_add, Nat.add_zero, Nat.add_sub_cancel_left, Int.toNat_natCast, reps, List.all_cons, List.all_nil, C.flat, List.append_eq, Bool.not_true, Bool.and_true, Bool.or_false, Bool.or_self, Bool.not_false, List.append_nil, Bool.and_self, ↓trG_rk]) <;> rfl) (hle : leS n H1 σ N σ h0 (belsK N (h0.map (Fam.rk σ N)) (argsK n args (args0.map (T.rk σ N)) True)) := by repeat' first | refine And.intro ?_ ?_ | exact xeC | fail) : CallK P F args H K := CallK.mk3 hc hap hnl h1 hN hn hH hle hk
set_option maxRecDepth 10000 in
set_option maxHeartbeats 16000000 in
theorem centries (s : ByteArray) (ix : Nat) (hs : s.size ≤ 100000000) (hix : ix ≤ 1000000000) :
    Ctr Try.prog 52 [.c (.s s), .c (.i .i64 (ix : Nat))] []
      fun v h => ∃ X c okb, (okb = true ↔ (ixL s).2 = true ∧ ordE (ixL s).1 ix) ∧ (okb = true → ers X = (ixL s).1) ∧ v = .t [.c (.sl 0 0 4 0 X.length c), .c (.b okb)] ∧ h = [.one (erR 1 X c), .many (trG X)] := by
  refine Ctr.mk' tbv mixed Try.func52 rfl rfl rfl (fun _ _ => by kernel_rfl) (by kernel_rfl) (by rfl) (by rfl) (by (repeat' first | refine And.intro ?_ ?_ | exact xeC | fail) <;> exact xmT) ?_
  repeat' (first | (fail_if_success (with_reducible refine xstp ?_)); first | ((with_reducible refine And.intro (fun (hb : _ = true) => ?_) (fun (hb : _ = false) => ?_)) <;> replace hb := xnC hb <;> (try first | exact xfC | exact bff hb (by assumption) | exact bff (by assumption) hb)) | (with_reducible refine Both.mk ?_ ?_) | ((with_reducible refine And.intro ?_ ?_); focus exact xoC) | ((with_reducible refine Or.inl ⟨?_, ?_, ?_⟩); (focus rfl); focus exact xaC) | ((with_reducible refine xwB ?_ ?_); focus exact xaC) | ((with_reducible refine xwC ?_ ?_); focus exact xaC) | ((with_reducible refine xwD ?_ ?_); focus exact xaC) | ((with_reducible refine xwE ?_ ?_); focus exact xaC) | (with_reducible intro hc; (try simp only [capsP, and_true] at hc); (try exact xfC)) | ((fail_if_success (with_reducible first | refine xgon ?_ | intro _)); (conv => whnf); (fail_if_success (fail_if_success (with_reducible first | refine xstp ?_ | refine Both.mk ?_ ?_ | refine xgon ?_ | intro _)))))
  refine cH41cX1 (σ := []) (nl := []) (cRAt s 0 0 (Nat.zero_le _) hs) ?_
  rintro v h' ⟨rfl, rfl⟩ hcaps
  have hm0 := rdAt_mono (s := s) (a := 0) (e := 0) (Nat.zero_le _)
  have hk2 := kind2_ok (s := s)
  have hkn := kind2_no (s := s)
  generalize hq0 : rdAt s 0 0 = q0 at *
  refine rH41cX0 ?_
  repeat' (first | (fail_if_success (with_reducible refine xstp ?_)); first | ((with_reducible refine And.intro (fun (hb : _ = true) => ?_) (fun (hb : _ = false) => ?_)) <;> replace hb := xnC hb <;> (try first | exact xfC | exact bff hb (by assumption) | exact bff (by assumption) hb)) | (with_reducible refine Both.mk ?_ ?_) | ((with_reducible refine And.intro ?_ ?_); focus exact xoC) | ((with_reducible refine Or.inl ⟨?_, ?_, ?_⟩); (focus rfl); focus exact xaC) | ((with_reducible refine xwB ?_ ?_); focus exact xaC) | ((with_reducible refine xwC ?_ ?_); focus exact xaC) | ((with_reducible refine xwD ?_ ?_); focus exact xaC) | ((with_reducible refine xwE ?_ ?_); focus exact xaC) | (with_reducible intro hc; (try simp only [capsP, and_true] at hc); (try exact xfC)) | ((fail_if_success (with_reducible first | refine xgon ?_ | intro _)); (conv => whnf); (fail_if_success (fail_if_success (with_reducible first | refine xstp ?_ | refine Both.mk ?_ ?_ | refine xgon ?_ | intro _)))))
  refine cH41cX1 (σ := []) (nl := []) (cRAt s q0.2.1 q0.2.2 hm0.2 hs) ?_
  rintro v h' ⟨rfl, rfl⟩ hcaps
  have hm1 := rdAt_mono (e := q0.2.2) hm0.2
  have hn0 := rdAt_le s q0.2.1 q0.2.2
  generalize hr0 : rdAt s q0.2.1 q0.2.2 = r0 at *
  obtain ⟨k0, a0, e0⟩ := r0
  simp only at hm1 hn0
  refine rH41cX0 ?_
  repeat' (first | (fail_if_success (with_reducible refine xstp ?_)); first | ((with_reducible refine And.intro (fun (hb : _ = true) => ?_) (fun (hb : _ = false) => ?_)) <;> replace hb := xnC hb <;> (try first | exact xfC | exact bff hb (by assumption) | exact bff (by assumption) hb)) | (with_reducible refine Both.mk ?_ ?_) | ((with_reducible refine And.intro ?_ ?_); focus exact xoC) | ((with_reducible refine Or.inl ⟨?_, ?_, ?_⟩); (focus rfl); focus exact xaC) | ((with_reducible refine xwB ?_ ?_); focus exact xaC) | ((with_reducible refine xwC ?_ ?_); focus exact xaC) | ((with_reducible refine xwD ?_ ?_); focus exact xaC) | ((with_reducible refine xwE ?_ ?_); focus exact xaC) | (with_reducible intro hc; (try simp only [capsP, and_true] at hc); (try exact xfC)) | ((fail_if_success (with_reducible first | refine xgon ?_ | intro _)); (conv => whnf); (fail_if_success (fail_if_success (with_reducible first | refine xstp ?_ | refine Both.mk ?_ ?_ | refine xgon ?_ | intro _)))))
  refine LoopK.mk' {p : Nat × Nat × Nat × List Er × Bool × Nat // p.1 ≤ k0 ∧ EnI s k0 a0 e0 p.1 p.2.1 p.2.2.1 (ers p.2.2.2.1) ∧ p.2.2.2.1.length + p.1 = k0 ∧ (p.2.2.2.2.1 = true ↔ q0.1 = 2 ∧ okEs (ers p.2.2.2.1) ix)}
    (fun ⟨(k, a, e, X, ok, c), _⟩ => ⟨[(1, .c (.i .i64 (ix : Nat))), (6, .c (.p 0 0 0)), (8, .c (.i .i64 (k0 : Nat))), (9, .c (.b ok)), (10, .c (.sl 1 0 4 0 X.length c)), (11, .c (.i .i64 (X.length : Nat)))],
      [.one (.cells true (rv s a e)), .one (erR 2 X c), .many (trG X)]⟩) (fun p => p.1.1)
    ⟨⟨(k0, a0, e0, [], decide (((q0.1 : Nat) : Int) = 2), 0), Nat.le_refl _, ⟨hm1.2, Nat.zero_le _, rfl⟩, by simp, by constructor; intro h; have := of_decide_eq_true h; exact ⟨by omega, fun i hi => absurd hi (Nat.not_lt_zero i)⟩; intro h; exact decide_eq_true (by omega)⟩, [0, 99, 98], ?_⟩ ?_
  · (repeat' first | refine And.intro ?_ ?_ | exact xeC | fail)
    all_goals first
      | exact xmT
      | (intro i hi; exact absurd hi (Nat.not_lt_zero i))
      | exact fun x => if_neg (Nat.not_lt_zero x)
      | skip
  rintro ⟨⟨k, a, e, X, ok, c⟩, hk, hI, hXk, hok⟩
  simp only at hk hI hXk hok
  have hIl := hI.le
  have hIn := hI.len
  have hel : (ers X).length = X.length := List.length_map _
  rw [hel] at hIn
  repeat' (first | (fail_if_success (with_reducible refine xstp ?_)); first | ((with_reducible refine And.intro (fun (hb : _ = true) => ?_) (fun (hb : _ = false) => ?_)) <;> replace hb := xnC hb <;> (try first | exact xfC | exact bff hb (by assumption) | exact bff (by assumption) hb)) | (with_reducible refine Both.mk ?_ ?_) | ((with_reducible refine And.intro ?_ ?_); focus exact xoC) | ((with_reducible refine Or.inl ⟨?_, ?_, ?_⟩); (focus rfl); focus exact xaC) | ((with_reducible refine xwB ?_ ?_); focus exact xaC) | ((with_reducible refine xwC ?_ ?_); focus exact xaC) | ((with_reducible refine xwD ?_ ?_); focus exact xaC) | ((with_reducible refine xwE ?_ ?_); focus exact xaC) | (with_reducible intro hc; (try simp only [capsP, and_true] at hc); (try exact xfC)) | ((fail_if_success (with_reducible first | refine xgon ?_ | intro _)); (conv => whnf); (fail_if_success (fail_if_success (with_reducible first | refine xstp ?_ | refine Both.mk ?_ ?_ | refine xgon ?_ | intro _)))))
  · obtain ⟨k2, rfl⟩ : ∃ k2, k = k2 + 1 := ⟨k - 1, by omega⟩
    obtain rfl : e = 0 := by omega
    rw [if_pos rfl] at hIn
    have hst := hI.step
    have htp := tl_pos (s := s) (a := a) (e := 0)
    refine cH41cX1 (σ := []) (nl := []) (centry s a hIl hs) ?_ (hle := by (repeat' first | refine And.intro ?_ ?_ | exact xeC | fail) <;> exact xmT)
    rintro v h' ⟨c3, rfl, rfl⟩ hcaps
    generalize hfb : decide (1 ≤ (sm4 s a 0).1 ∧ (rdEn s a 0).fi ≤ (rdEn s a 0).la ∧ okTs (rdEn s a 0).T) = fb at *
    have hfb2 : fb = true ↔ 1 ≤ (rdEn s a 0).T.length ∧ (rdEn s a 0).fi ≤ (rdEn s a 0).la ∧ okTs (rdEn s a 0).T := by rw [← hfb, decide_eq_true_iff, htp]
    clear hfb htp
    generalize rdEn s a 0 = y at *
    generalize enT s a 0 = et at *
    have hpv : (ers X).getD (X.length - 1) default = (X.getD ((X.length : Int) - 1).toNat default).e := by rw [getErs, show ((X.length : Int) - 1).toNat = X.length - 1 by omega]
    have hsn := okEs_snoc (L := ers X) (y := y) (ix := ix)
    rw [hel, hpv] at hsn
    have hbad := fun (h : ¬ (((X.length = 0 → y.off = 5) ∧ (0 < X.length → (X.getD ((X.length : Int) - 1).toNat default).e.off < y.off) ∧ y.off < ix) ∧ ((0 < X.length → (X.getD ((X.length : Int) - 1).toNat default).e.la ≤ y.fi) ∧ y.fi ≤ y.la ∧ 1 ≤ y.T.length) ∧ okTs y.T)) => (⟨fun q => (by cases q), fun q => absurd (hsn.1 q.2).2 h⟩ : false = true ↔ q0.1 = 2 ∧ okEs (ers X ++ [y]) ix)
    have hgood := fun (h : ((X.length = 0 → y.off = 5) ∧ (0 < X.length → (X.getD ((X.length : Int) - 1).toNat default).e.off < y.off) ∧ y.off < ix) ∧ ((0 < X.length → (X.getD ((X.length : Int) - 1).toNat default).e.la ≤ y.fi) ∧ y.fi ≤ y.la ∧ 1 ≤ y.T.length) ∧ okTs y.T) => hok.trans (⟨fun q => ⟨q.1, hsn.2 ⟨q.2, h⟩⟩, fun q => ⟨q.1, (hsn.1 q.2).1⟩⟩ : q0.1 = 2 ∧ okEs (ers X) ix ↔ q0.1 = 2 ∧ okEs (ers X ++ [y]) ix)
    refine rH41cX0 ?_
    repeat' (first | (fail_if_success (with_reducible refine xstp ?_)); first | ((with_reducible refine And.intro (fun (hb : _ = true) => ?_) (fun (hb : _ = false) => ?_)) <;> replace hb := xnC hb <;> (try first | exact xfC | exact bff hb (by assumption) | exact bff (by assumption) hb)) | (with_reducible refine Both.mk ?_ ?_) | ((with_reducible refine And.intro ?_ ?_); focus exact xoC) | ((with_reducible refine Or.inl ⟨?_, ?_, ?_⟩); (focus rfl); focus exact xaC) | ((with_reducible refine xwB ?_ ?_); focus exact xaC) | ((with_reducible refine xwC ?_ ?_); focus exact xaC) | ((with_reducible refine xwD ?_ ?_); focus exact xaC) | ((with_reducible refine xwE ?_ ?_); focus exact xaC) | (with_reducible intro hc; (try simp only [capsP, and_true] at hc); (try exact xfC)) | ((fail_if_success (with_reducible first | refine xgon ?_ | intro _)); (conv => whnf); (fail_if_success (fail_if_success (with_reducible first | refine xstp ?_ | refine Both.mk ?_ ?_ | refine xgon ?_ | intro _)))))
    · skip
      rename_i c4
      refine ⟨⟨(k2, et.2.1, et.2.2, X ++ [⟨y, c3⟩], false, c4), by omega, by rw [ers_snoc]; exact hst, by rw [List.length_append, List.length_singleton]; omega, by rw [ers_snoc]; exact (hbad fun q => by have := hfb2.2 ⟨q.2.1.2.2, q.2.1.2.1, q.2.2⟩; rw [hb] at this; cases this)⟩, [0, 7, .adopt 2 X.length 3], by simp only; omega, ?_⟩
      (repeat' first | refine And.intro ?_ ?_ | exact xeC | fail)
      all_goals first
        | exact xmT
        | (simp; done)
        | exact erApp (G := 3) (y := ⟨y, c3⟩) (fun i hi => by simp [key, hi]) (by simp [key]) rfl
        | exact fun x hx => ixG_leA trF hx
        | skip
      refine ixG_leAn trF ?_
      refine ⟨rfl, rfl, rfl, rfl, Nat.le_refl _, rfl, fun i hi => rfl, ?_⟩
      (repeat' first | refine And.intro ?_ ?_ | exact xeC | fail)
      all_goals first
        | exact xmT
        | (simp; done)
        | skip
    · skip
      rename_i c4
      refine ⟨⟨(k2, et.2.1, et.2.2, X ++ [⟨y, c3⟩], false, c4), by omega, by rw [ers_snoc]; exact hst, by rw [List.length_append, List.length_singleton]; omega, by rw [ers_snoc]; exact (hbad fun q => by have := q.1.2.2; omega)⟩, [0, 7, .adopt 2 X.length 3], by simp only; omega, ?_⟩
      (repeat' first | refine And.intro ?_ ?_ | exact xeC | fail)
      all_goals first
        | exact xmT
        | (simp; done)
        | exact erApp (G := 3) (y := ⟨y, c3⟩) (fun i hi => by simp [key, hi]) (by simp [key]) rfl
        | exact fun x hx => ixG_leA trF hx
        | skip
      refine ixG_leAn trF ?_
      refine ⟨rfl, rfl, rfl, rfl, Nat.le_refl _, rfl, fun i hi => rfl, ?_⟩
      (repeat' first | refine And.intro ?_ ?_ | exact xeC | fail)
      all_goals first
        | exact xmT
        | (simp; done)
        | skip
    · skip
      rename_i c4
      refine ⟨⟨(k2, et.2.1, et.2.2, X ++ [⟨y, c3⟩], false, c4), by omega, by rw [ers_snoc]; exact hst, by rw [List.length_append, List.length_singleton]; omega, by rw [ers_snoc]; exact (hbad fun q => by have := q.1.1; omega)⟩, [0, 7, .adopt 2 X.length 3], by simp only; omega, ?_⟩
      (repeat' first | refine And.intro ?_ ?_ | exact xeC | fail)
      all_goals first
        | exact xmT
        | (simp; done)
        | exact erApp (G := 3) (y := ⟨y, c3⟩) (fun i hi => by simp [key, hi]) (by simp [key]) rfl
        | exact fun x hx => ixG_leA trF hx
        | skip
      refine ixG_leAn trF ?_
      refine ⟨rfl, rfl, rfl, rfl, Nat.le_refl _, rfl, fun i hi => rfl, ?_⟩
      (repeat' first | refine And.intro ?_ ?_ | exact xeC | fail)
      all_goals first
        | exact xmT
        | (simp; done)
        | skip
    · skip
      rename_i c4
      refine ⟨⟨(k2, et.2.1, et.2.2, X ++ [⟨y, c3⟩], ok, c4), by omega, by rw [ers_snoc]; exact hst, by rw [List.length_append, List.length_singleton]; omega, by rw [ers_snoc]; exact (hgood (by obtain ⟨p6, p5, p7⟩ := hfb2.1 (by assumption); exact ⟨⟨by omega, by omega, by omega⟩, ⟨by omega, p5, p6⟩, p7⟩))⟩, [0, 7, .adopt 2 X.length 3], by simp only; omega, ?_⟩
      (repeat' first | refine And.intro ?_ ?_ | exact xeC | fail)
      all_goals first
        | exact xmT
        | (simp; done)
        | exact erApp (G := 3) (y := ⟨y, c3⟩) (fun i hi => by simp [key, hi]) (by simp [key]) rfl
        | exact fun x hx => ixG_leA trF hx
        | skip
      refine ixG_leAn trF ?_
      refine ⟨rfl, rfl, rfl, rfl, Nat.le_refl _, rfl, fun i hi => rfl, ?_⟩
      (repeat' first | refine And.intro ?_ ?_ | exact xeC | fail)
      all_goals first
        | exact xmT
        | (simp; done)
        | skip
    · skip
      rename_i c4
      refine ⟨⟨(k2, et.2.1, et.2.2, X ++ [⟨y, c3⟩], false, c4), by omega, by rw [ers_snoc]; exact hst, by rw [List.length_append, List.length_singleton]; omega, by rw [ers_snoc]; exact (hbad fun q => by have := q.1.2.1; omega)⟩, [0, 7, .adopt 2 X.length 3], by simp only; omega, ?_⟩
      (repeat' first | refine And.intro ?_ ?_ | exact xeC | fail)
      all_goals first
        | exact xmT
        | (simp; done)
        | exact erApp (G := 3) (y := ⟨y, c3⟩) (fun i hi => by simp [key, hi]) (by simp [key]) rfl
        | exact fun x hx => ixG_leA trF hx
        | skip
      refine ixG_leAn trF ?_
      refine ⟨rfl, rfl, rfl, rfl, Nat.le_refl _, rfl, fun i hi => rfl, ?_⟩
      (repeat' first | refine And.intro ?_ ?_ | exact xeC | fail)
      all_goals first
        | exact xmT
        | (simp; done)
        | skip
    · skip
      rename_i c4
      refine ⟨⟨(k2, et.2.1, et.2.2, X ++ [⟨y, c3⟩], false, c4), by omega, by rw [ers_snoc]; exact hst, by rw [List.length_append, List.length_singleton]; omega, by rw [ers_snoc]; exact (hbad fun q => by have := q.2.1.1; omega)⟩, [0, 7, .adopt 2 X.length 3], by simp only; omega, ?_⟩
      (repeat' first | refine And.intro ?_ ?_ | exact xeC | fail)
      all_goals first
        | exact xmT
        | (simp; done)
        | exact erApp (G := 3) (y := ⟨y, c3⟩) (fun i hi => by simp [key, hi]) (by simp [key]) rfl
        | exact fun x hx => ixG_leA trF hx
        | skip
      refine ixG_leAn trF ?_
      refine ⟨rfl, rfl, rfl, rfl, Nat.le_refl _, rfl, fun i hi => rfl, ?_⟩
      (repeat' first | refine And.intro ?_ ?_ | exact xeC | fail)
      all_goals first
        | exact xmT
        | (simp; done)
        | skip
    · skip
      rename_i c4
      refine ⟨⟨(k2, et.2.1, et.2.2, X ++ [⟨y, c3⟩], ok, c4), by omega, by rw [ers_snoc]; exact hst, by rw [List.length_append, List.length_singleton]; omega, by rw [ers_snoc]; exact (hgood (by obtain ⟨p6, p5, p7⟩ := hfb2.1 (by assumption); exact ⟨⟨by omega, by omega, by omega⟩, ⟨by omega, p5, p6⟩, p7⟩))⟩, [0, 7, .adopt 2 X.length 3], by simp only; omega, ?_⟩
      (repeat' first | refine And.intro ?_ ?_ | exact xeC | fail)
      all_goals first
        | exact xmT
        | (simp; done)
        | exact erApp (G := 3) (y := ⟨y, c3⟩) (fun i hi => by simp [key, hi]) (by simp [key]) rfl
        | exact fun x hx => ixG_leA trF hx
        | skip
      refine ixG_leAn trF ?_
      refine ⟨rfl, rfl, rfl, rfl, Nat.le_refl _, rfl, fun i hi => rfl, ?_⟩
      (repeat' first | refine And.intro ?_ ?_ | exact xeC | fail)
      all_goals first
        | exact xmT
        | (simp; done)
        | skip
  all_goals obtain ⟨hfa, hfl⟩ := ix_fin (ix := ix) hq0 hr0 hI hXk (by omega)
  · skip
    refine cH41cX1 (σ := []) (nl := []) (cREnd s a e) ?_ (hle := by (repeat' first | refine And.intro ?_ ?_ | exact xeC | fail) <;> exact xmT)
    rintro v h' ⟨rfl, rfl⟩ hcaps
    refine rH41cX0 ?_
    repeat' (first | (fail_if_success (with_reducible refine xstp ?_)); first | ((with_reducible refine And.intro (fun (hb : _ = true) => ?_) (fun (hb : _ = false) => ?_)) <;> replace hb := xnC hb <;> (try first | exact xfC | exact bff hb (by assumption) | exact bff (by assumption) hb)) | (with_reducible refine Both.mk ?_ ?_) | ((with_reducible refine And.intro ?_ ?_); focus exact xoC) | ((with_reducible refine Or.inl ⟨?_, ?_, ?_⟩); (focus rfl); focus exact xaC) | ((with_reducible refine xwB ?_ ?_); focus exact xaC) | ((with_reducible refine xwC ?_ ?_); focus exact xaC) | ((with_reducible refine xwD ?_ ?_); focus exact xaC) | ((with_reducible refine xwE ?_ ?_); focus exact xaC) | (with_reducible intro hc; (try simp only [capsP, and_true] at hc); (try exact xfC)) | ((fail_if_success (with_reducible first | refine xgon ?_ | intro _)); (conv => whnf); (fail_if_success (fail_if_success (with_reducible first | refine xstp ?_ | refine Both.mk ?_ ?_ | refine xgon ?_ | intro _)))))
    have hok2 := hok.1 (by assumption)
    have h5 : k0 = 0 → ix = 5 := by omega
    refine FinK.mk ⟨[1, 2], _, _, ⟨X, c, decide (((endV s a e : Nat) : Int) = 0), ⟨fun h => hfa.2 ⟨hok2.1, by have := of_decide_eq_true h; omega, hok2.2, h5⟩, fun h => decide_eq_true (by have := (hfa.1 h).2.1; omega)⟩, fun _ => (hfl hok2.1).symm, rfl, rfl⟩, ?_⟩
    (repeat' first | refine And.intro ?_ ?_ | exact xeC | fail)
    all_goals exact xmT
  · skip
    refine FinK.mk ⟨[1, 2], _, _, ⟨X, c, false, ⟨fun h => (by cases h), fun h => absurd (hfa.1 h) (fun q => by have := hok.2 ⟨q.1, q.2.2.1⟩; rw [hb] at this; cases this)⟩, fun h => (by cases h), rfl, rfl⟩, ?_⟩
    (repeat' first | refine And.intro ?_ ?_ | exact xeC | fail)
    all_goals exact xmT
  · skip
    refine FinK.mk ⟨[1, 2], _, _, ⟨X, c, false, ⟨fun h => (by cases h), fun h => absurd (hfa.1 h) (fun q => by have := q.2.2.2; omega)⟩, fun h => (by cases h), rfl, rfl⟩, ?_⟩
    (repeat' first | refine And.intro ?_ ?_ | exact xeC | fail)
    all_goals exact xmT
  · skip
    refine cH41cX1 (σ := []) (nl := []) (cREnd s a e) ?_ (hle := by (repeat' first | refine And.intro ?_ ?_ | exact xeC | fail) <;> exact xmT)
    rintro v h' ⟨rfl, rfl⟩ hcaps
    refine rH41cX0 ?_
    repeat' (first | (fail_if_success (with_reducible refine xstp ?_)); first | ((with_reducible refine And.intro (fun (hb : _ = true) => ?_) (fun (hb : _ = false) => ?_)) <;> replace hb := xnC hb <;> (try first | exact xfC | exact bff hb (by assumption) | exact bff (by assumption) hb)) | (with_reducible refine Both.mk ?_ ?_) | ((with_reducible refine And.intro ?_ ?_); focus exact xoC) | ((with_reducible refine Or.inl ⟨?_, ?_, ?_⟩); (focus rfl); focus exact xaC) | ((with_reducible refine xwB ?_ ?_); focus exact xaC) | ((with_reducible refine xwC ?_ ?_); focus exact xaC) | ((with_reducible refine xwD ?_ ?_); focus exact xaC) | ((with_reducible refine xwE ?_ ?_); focus exact xaC) | (with_reducible intro hc; (try simp only [capsP, and_true] at hc); (try exact xfC)) | ((fail_if_success (with_reducible first | refine xgon ?_ | intro _)); (conv => whnf); (fail_if_success (fail_if_success (with_reducible first | refine xstp ?_ | refine Both.mk ?_ ?_ | refine xgon ?_ | intro _)))))
    have hok2 := hok.1 (by assumption)
    have h5 : k0 = 0 → ix = 5 := by omega
    refine FinK.mk ⟨[1, 2], _, _, ⟨X, c, decide (((endV s a e : Nat) : Int) = 0), ⟨fun h => hfa.2 ⟨hok2.1, by have := of_decide_eq_true h; omega, hok2.2, h5⟩, fun h => decide_eq_true (by have := (hfa.1 h).2.1; omega)⟩, fun _ => (hfl hok2.1).symm, rfl, rfl⟩, ?_⟩
    (repeat' first | refine And.intro ?_ ?_ | exact xeC | fail)
    all_goals exact xmT
  · skip
    refine FinK.mk ⟨[1, 2], _, _, ⟨X, c, false, ⟨fun h => (by cases h), fun h => absurd (hfa.1 h) (fun q => by have := hok.2 ⟨q.1, q.2.2.1⟩; rw [hb] at this; cases this)⟩, fun h => (by cases h), rfl, rfl⟩, ?_⟩
    (repeat' first | refine And.intro ?_ ?_ | exact xeC | fail)
    all_goals exact xmT
  · skip
    refine cH41cX1 (σ := []) (nl := []) (cREnd s a e) ?_ (hle := by (repeat' first | refine And.intro ?_ ?_ | exact xeC | fail) <;> exact xmT)
    rintro v h' ⟨rfl, rfl⟩ hcaps
    refine rH41cX0 ?_
    repeat' (first | (fail_if_success (with_reducible refine xstp ?_)); first | ((with_reducible refine And.intro (fun (hb : _ = true) => ?_) (fun (hb : _ = false) => ?_)) <;> replace hb := xnC hb <;> (try first | exact xfC | exact bff hb (by assumption) | exact bff (by assumption) hb)) | (with_reducible refine Both.mk ?_ ?_) | ((with_reducible refine And.intro ?_ ?_); focus exact xoC) | ((with_reducible refine Or.inl ⟨?_, ?_, ?_⟩); (focus rfl); focus exact xaC) | ((with_reducible refine xwB ?_ ?_); focus exact xaC) | ((with_reducible refine xwC ?_ ?_); focus exact xaC) | ((with_reducible refine xwD ?_ ?_); focus exact xaC) | ((with_reducible refine xwE ?_ ?_); focus exact xaC) | (with_reducible intro hc; (try simp only [capsP, and_true] at hc); (try exact xfC)) | ((fail_if_success (with_reducible first | refine xgon ?_ | intro _)); (conv => whnf); (fail_if_success (fail_if_success (with_reducible first | refine xstp ?_ | refine Both.mk ?_ ?_ | refine xgon ?_ | intro _)))))
    have hok2 := hok.1 (by assumption)
    have h5 : k0 = 0 → ix = 5 := by omega
    refine FinK.mk ⟨[1, 2], _, _, ⟨X, c, decide (((endV s a e : Nat) : Int) = 0), ⟨fun h => hfa.2 ⟨hok2.1, by have := of_decide_eq_true h; omega, hok2.2, h5⟩, fun h => decide_eq_true (by have := (hfa.1 h).2.1; omega)⟩, fun _ => (hfl hok2.1).symm, rfl, rfl⟩, ?_⟩
    (repeat' first | refine And.intro ?_ ?_ | exact xeC | fail)
    all_goals exact xmT
  · skip
    refine FinK.mk ⟨[1, 2], _, _, ⟨X, c, false, ⟨fun h => (by cases h), fun h => absurd (hfa.1 h) (fun q => by have := hok.2 ⟨q.1, q.2.2.1⟩; rw [hb] at this; cases this)⟩, fun h => (by cases h), rfl, rfl⟩, ?_⟩
    (repeat' first | refine And.intro ?_ ?_ | exact xeC | fail)
    all_goals exact xmT
end Go.Proofs.Ytkjkbpnhocjenaa
namespace Go.Proofs.Ytkjkbpnhocjenaa
open Go.X
set_option linter.unusedSimpArgs false
set_option linter.unusedVariables false
open P4
open P5
abbrev rbC (b : Bg) (F n c : Nat) : Ck := .cells true [.s (mkS b.s), .i .i64 (b.ix : Nat), .sl F 0 4 0 n c]
abbrev rbH (b : Bg) (X : List Er) (c : Nat) : List Fam := [.one (rbC b 1 X.length c), .one (erR 2 X c), .many (trG X)]
set_option maxRecDepth 10000 in
theorem csame (w w2 : Bool) (l m : List Tl) (c d : Nat) (hl : l.length ≤ 1000000000) :
    Ctr Try.prog 87 [.c (.sl 0 0 2 0 l.length c), .c (.sl 1 0 2 0 m.length d)] [.one (tlR w l c), .one (tlR w2 m d)]
      fun v h => v = .c (.b (decide (l = m))) ∧ h = [.one (tlR w l c), .one (tlR w2 m d)] := by
  refine Ctr.mk' tbv mixed Try.func87 rfl rfl rfl (fun _ _ => by kernel_rfl) (by kernel_rfl) (by rfl) (by rfl) (by (repeat' first | refine And.intro ?_ ?_ | exact xeC | fail)) ?_
  repeat' (first | (fail_if_success (with_reducible refine xstp ?_)); first | ((with_reducible refine And.intro (fun (hb : _ = true) => ?_) (fun (hb : _ = false) => ?_)) <;> replace hb := xnC hb <;> (try first | exact xfC | exact bff hb (by assumption) | exact bff (by assumption) hb)) | (with_reducible refine Both.mk ?_ ?_) | ((with_reducible refine And.intro ?_ ?_); focus exact xoC) | ((with_reducible refine Or.inl ⟨?_, ?_, ?_⟩); (focus rfl); focus exact xaC) | ((with_reducible refine xwB ?_ ?_); focus exact xaC) | ((with_reducible refine xwC ?_ ?_); focus exact xaC) | ((with_reducible refine xwD ?_ ?_); focus exact xaC) | ((with_reducible refine xwE ?_ ?_); focus exact xaC) | (with_reducible intro hc; (try simp only [capsP, and_true] at hc); (try exact xfC)) | ((fail_if_success (with_reducible first | refine xgon ?_ | intro _)); (conv => whnf); (fail_if_success (fail_if_success (with_reducible first | refine xstp ?_ | refine Both.mk ?_ ?_ | refine xgon ?_ | intro _)))))
  · rw [decide_eq_false (p := l = m) (fun e => hb (by rw [e]))]
    refine FinK.mk ⟨[0, 1], _, _, ⟨rfl, rfl⟩, ?_⟩
    (repeat' first | refine And.intro ?_ ?_ | exact xeC | fail)
  have hlm : l.length = m.length := by omega
  refine LoopK.mk' {i : Nat // i ≤ l.length ∧ l.take i = m.take i}
    (fun ⟨i, _⟩ => ⟨[(0, .c (.sl 0 0 2 0 l.length c)), (1, .c (.sl 1 0 2 0 m.length d)), (5, .c (.i .i64 (i : Nat)))], [.one (tlR w l c), .one (tlR w2 m d)]⟩) (fun p => l.length - p.1)
    ⟨⟨0, Nat.zero_le _, rfl⟩, [0, 1], ?_⟩ ?_
  · (repeat' first | refine And.intro ?_ ?_ | exact xeC | fail)
  rintro ⟨i, hi, hq⟩
  have e2 : 0 + ((i : Nat) : Int).toNat = i := by omega
  repeat' (first | (fail_if_success (with_reducible refine xstp ?_)); first | ((with_reducible refine And.intro (fun (hb : _ = true) => ?_) (fun (hb : _ = false) => ?_)) <;> replace hb := xnC hb <;> (try first | exact xfC | exact bff hb (by assumption) | exact bff (by assumption) hb)) | (with_reducible refine Both.mk ?_ ?_) | ((with_reducible refine And.intro ?_ ?_); focus exact xoC) | ((with_reducible refine Or.inl ⟨?_, ?_, ?_⟩); (focus rfl); focus exact xaC) | ((with_reducible refine xwB ?_ ?_); focus exact xaC) | ((with_reducible refine xwC ?_ ?_); focus exact xaC) | ((with_reducible refine xwD ?_ ?_); focus exact xaC) | ((with_reducible refine xwE ?_ ?_); focus exact xaC) | (with_reducible intro hc; (try simp only [capsP, and_true] at hc); (try exact xfC)) | ((fail_if_success (with_reducible first | refine xgon ?_ | intro _)); (conv => whnf); (fail_if_success (fail_if_success (with_reducible first | refine xstp ?_ | refine Both.mk ?_ ?_ | refine xgon ?_ | intro _)))))
  · have hne : l ≠ m := fun e => by
      rw [e] at hb
      simp at hb
    rw [decide_eq_false (p := l = m) hne]
    refine FinK.mk ⟨[0, 1], _, _, ⟨rfl, rfl⟩, ?_⟩
    (repeat' first | refine And.intro ?_ ?_ | exact xeC | fail)
  · have hg : l.getD i default = m.getD i default := by
      obtain ⟨h1, h2⟩ := hb
      have h1 := mkS_inj.1 h1
      generalize l.getD i default = x at *
      generalize m.getD i default = y at *
      cases x
      cases y
      simp only at h1 h2
      rw [h1, show _ = _ from Int.ofNat_inj.1 h2]
    refine ⟨⟨i + 1, by omega, take_eq hq (by omega) (by omega) hg⟩, [0, 1], by simp only; omega, ?_⟩
    (repeat' first | refine And.intro ?_ ?_ | exact xeC | fail)
  · obtain rfl : i = l.length := by omega
    rw [decide_eq_true (p := l = m) (by rw [List.take_length, hlm, List.take_length] at hq; exact hq)]
    refine FinK.mk ⟨[0, 1], _, _, ⟨rfl, rfl⟩, ?_⟩
    (repeat' first | refine And.intro ?_ ?_ | exact xeC | fail)
set_option maxRecDepth 10000 in
theorem chas (w : Bool) (e : En) (c : Nat) (t : List UInt8) (hl : e.T.length ≤ 1000000000) :
    Ctr Try.prog 56 [.a [.i .i64 (e.off : Nat), .i .i64 (e.fi : Nat), .i .i64 (e.la : Nat), .sl 0 0 2 0 e.T.length c], .c (.s (mkS t))] [.one (tlR w e.T c)]
      fun v h => v = .c (.b (decide (hasT e t))) ∧ h = [.one (tlR w e.T c)] := by
  have hm : t ∈ e.T.map Prod.fst ↔ ∃ k, k < e.T.length ∧ (e.T.getD k default).1 = t := by
    constructor
    · intro h
      obtain ⟨p, hp, rfl⟩ := List.mem_map.1 h
      obtain ⟨k, hk, e2⟩ := List.mem_iff_getElem.1 hp
      exact ⟨k, hk, by rw [getD_at hk, e2]⟩
    · rintro ⟨k, hk, rfl⟩
      exact List.mem_map.2 ⟨_, by rw [getD_at hk]; exact List.getElem_mem _, rfl⟩
  refine Ctr.mk' tbv mixed Try.func56 rfl rfl rfl (fun _ _ => by kernel_rfl) (by kernel_rfl) (by rfl) (by rfl) (by (repeat' first | refine And.intro ?_ ?_ | exact xeC | fail)) ?_
  repeat' (first | (fail_if_success (with_reducible refine xstp ?_)); first | ((with_reducible refine And.intro (fun (hb : _ = true) => ?_) (fun (hb : _ = false) => ?_)) <;> replace hb := xnC hb <;> (try first | exact xfC | exact bff hb (by assumption) | exact bff (by assumption) hb)) | (with_reducible refine Both.mk ?_ ?_) | ((with_reducible refine And.intro ?_ ?_); focus exact xoC) | ((with_reducible refine Or.inl ⟨?_, ?_, ?_⟩); (focus rfl); focus exact xaC) | ((with_reducible refine xwB ?_ ?_); focus exact xaC) | ((with_reducible refine xwC ?_ ?_); focus exact xaC) | ((with_reducible refine xwD ?_ ?_); focus exact xaC) | ((with_reducible refine xwE ?_ ?_); focus exact xaC) | (with_reducible intro hc; (try simp only [capsP, and_true] at hc); (try exact xfC)) | ((fail_if_success (with_reducible first | refine xgon ?_ | intro _)); (conv => whnf); (fail_if_success (fail_if_success (with_reducible first | refine xstp ?_ | refine Both.mk ?_ ?_ | refine xgon ?_ | intro _)))))
  refine LoopK.mk' {i : Nat // i ≤ e.T.length ∧ ∀ k, k < i → (e.T.getD k default).1 ≠ t}
    (fun ⟨i, _⟩ => ⟨[(1, .c (.s (mkS t))), (2, .c (.p 1 0 0)), (5, .c (.i .i64 (i : Nat)))], [.one (tlR w e.T c), .one (.cells true [.i .i64 (e.off : Nat), .i .i64 (e.fi : Nat), .i .i64 (e.la : Nat), .sl 0 0 2 0 e.T.length c])]⟩) (fun p => e.T.length - p.1)
    ⟨⟨0, Nat.zero_le _, fun k hk => absurd hk (Nat.not_lt_zero k)⟩, [0, 1], ?_⟩ ?_
  · (repeat' first | refine And.intro ?_ ?_ | exact xeC | fail)
  rintro ⟨i, hi, hq⟩
  have e2 : 0 + ((i : Nat) : Int).toNat = i := by omega
  repeat' (first | (fail_if_success (with_reducible refine xstp ?_)); first | ((with_reducible refine And.intro (fun (hb : _ = true) => ?_) (fun (hb : _ = false) => ?_)) <;> replace hb := xnC hb <;> (try first | exact xfC | exact bff hb (by assumption) | exact bff (by assumption) hb)) | (with_reducible refine Both.mk ?_ ?_) | ((with_reducible refine And.intro ?_ ?_); focus exact xoC) | ((with_reducible refine Or.inl ⟨?_, ?_, ?_⟩); (focus rfl); focus exact xaC) | ((with_reducible refine xwB ?_ ?_); focus exact xaC) | ((with_reducible refine xwC ?_ ?_); focus exact xaC) | ((with_reducible refine xwD ?_ ?_); focus exact xaC) | ((with_reducible refine xwE ?_ ?_); focus exact xaC) | (with_reducible intro hc; (try simp only [capsP, and_true] at hc); (try exact xfC)) | ((fail_if_success (with_reducible first | refine xgon ?_ | intro _)); (conv => whnf); (fail_if_success (fail_if_success (with_reducible first | refine xstp ?_ | refine Both.mk ?_ ?_ | refine xgon ?_ | intro _)))))
  · rw [decide_eq_true (p := hasT e t) (.inr (hm.2 ⟨i, by omega, mkS_inj.1 hb⟩))]
    refine FinK.mk ⟨[0], _, _, ⟨rfl, rfl⟩, ?_⟩
    (repeat' first | refine And.intro ?_ ?_ | exact xeC | fail)
  · refine ⟨⟨i + 1, by omega, fun k hk => ?_⟩, [0, 1], by simp only; omega, ?_⟩
    · rcases Nat.lt_or_ge k i with q | q
      · exact hq k q
      · obtain rfl : k = i := by omega
        exact fun q => hb (by rw [q])
    · (repeat' first | refine And.intro ?_ ?_ | exact xeC | fail)
  · obtain rfl : i = e.T.length := by omega
    have hd : decide (mkS t = { data := #[] }) = decide (hasT e t) := by
      by_cases q : t = []
      · rw [decide_eq_true (mkS_nil.2 q), decide_eq_true (p := hasT e t) (.inl q)]
      · rw [decide_eq_false (fun h => q (mkS_nil.1 h)), decide_eq_false (p := hasT e t) (fun h => h.elim q (fun h => by obtain ⟨k, hk, he⟩ := hm.1 h; exact hq k hk he))]
    rw [← hd]
    refine FinK.mk ⟨[0], _, _, ⟨rfl, rfl⟩, ?_⟩
    (repeat' first | refine And.intro ?_ ?_ | exact xeC | fail)
set_option maxRecDepth 10000 in
theorem cSpanRef (b : Bg) (X : List Er) (c : Nat) (hB : BOk b) (hX : ers X = b.L) :
    Ctr Try.prog 24 [.c (.p 0 0 0)] (rbH b X c)
      fun v h => v = spnB b ∧ h = rbH b X c := by
  have hLl : b.L.length = X.length := by rw [← hX]; exact List.length_map _
  have hgk : ∀ i, b.L.getD i default = (X.getD i default).e := fun i => by rw [← hX, getErs]
  have hn := hB.n
  refine Ctr.mk' tbv mixed Try.func24 rfl rfl rfl (fun _ _ => by kernel_rfl) (by kernel_rfl) (by rfl) (by rfl) (by (repeat' first | refine And.intro ?_ ?_ | exact xeC | fail) <;> exact xmT) ?_
  repeat' (first | (fail_if_success (with_reducible refine xstp ?_)); first | ((with_reducible refine And.intro (fun (hb : _ = true) => ?_) (fun (hb : _ = false) => ?_)) <;> replace hb := xnC hb <;> (try first | exact xfC | exact bff hb (by assumption) | exact bff (by assumption) hb)) | (with_reducible refine Both.mk ?_ ?_) | ((with_reducible refine And.intro ?_ ?_); focus exact xoC) | ((with_reducible refine Or.inl ⟨?_, ?_, ?_⟩); (focus rfl); focus exact xaC) | ((with_reducible refine xwB ?_ ?_); focus exact xaC) | ((with_reducible refine xwC ?_ ?_); focus exact xaC) | ((with_reducible refine xwD ?_ ?_); focus exact xaC) | ((with_reducible refine xwE ?_ ?_); focus exact xaC) | (with_reducible intro hc; (try simp only [capsP, and_true] at hc); (try exact xfC)) | ((fail_if_success (with_reducible first | refine xgon ?_ | intro _)); (conv => whnf); (fail_if_success (fail_if_success (with_reducible first | refine xstp ?_ | refine Both.mk ?_ ?_ | refine xgon ?_ | intro _)))))
  · rw [show spnB b = _ from if_pos (by omega)]
    refine FinK.mk ⟨[0, 1, 2], _, _, ⟨rfl, rfl⟩, ?_⟩
    (repeat' first | refine And.intro ?_ ?_ | exact xeC | fail)
    all_goals exact xmT
  · rw [show spnB b = _ from if_neg (by omega), hgk, hgk, hLl, show 0 + ((X.length : Int) - 1).toNat = X.length - 1 by omega]
    refine FinK.mk ⟨[0, 1, 2], _, _, ⟨rfl, rfl⟩, ?_⟩
    (repeat' first | refine And.intro ?_ ?_ | exact xeC | fail)
    all_goals exact xmT
end Go.Proofs.Ytkjkbpnhocjenaa
namespace Go.Proofs.Ytkjkbpnhocjenaa
open Go.X
set_option linter.unusedSimpArgs false
set_option linter.unusedVariables false
open P4
open P5
theorem encEr_rk0 (N : Nat) (X : List Er) (i : Nat) : List.map (C.rk [] N) (encEr 1 X i) = encEr (N + 1) X i := rfl
theorem rH41cY0 {σ : List Sg} {H h' : List Fam} {v : T} {K : T → List Fam → Prop} {H' : List Fam} {v' : T} {N : Nat} (hk : K v' H') (hN : H.length = N := by (try simp only [↓List.length_cons, ↓List.length_nil, Nat.reduceAdd]) <;> rfl) (h : givesF σ N H σ h' = some H' := by (try simp (maxSteps := 1000000) only [givesF, setF, updF, Fam.zeroth, Fam.rk, Ck.rk, C.rk, E.rk, T.rk, key, List.map_cons, List.map_nil, List.cons_append, List.nil_append, List.length_cons, List.length_nil, Option.map_some, Option.bind_some, Nat.reduceAdd, Nat.zero_add, Nat.add_zero, Nat.add_sub_cancel_left, Int.toNat_natCast, reps, List.all_cons, List.all_nil, C.flat, List.append_eq, Bool.not_true, Bool.and_true, Bool.or_false, Bool.or_self, Bool.not_false, List.append_nil, Bool.and_self, ↓trG_rk]) <;> rfl) (hv : v.rk σ N = v' := by (try simp only [givesF, setF, updF, Fam.zeroth, Fam.rk, Ck.rk, C.rk, E.rk, T.rk, key, List.map_cons, List.map_nil, List.cons_append, List.nil_append, List.length_cons, List.length_nil, Option.map_some, Option.bind_some, Nat.reduceAdd, Nat.zero_add, Nat.add_zero, Nat.add_sub_cancel_left, Int.toNat_natCast, reps, List.all_cons, List.all_nil, C.flat, List.append_eq, Bool.not_true, Bool.and_true, Bool.or_false, Bool.or_self, Bool.not_false, List.append_nil, Bool.and_self, ↓trG_rk]) <;> rfl) : RetG σ H h' v K := ret_mk3 hN h hv hk
theorem rH41cY1 {σ : List Sg} {H h' : List Fam} {v : T} {K : T → List Fam → Prop} {H' : List Fam} {v' : T} {N : Nat} (hk : K v' H') (hN : H.length = N := by (try simp only [↓List.length_cons, ↓List.length_nil, Nat.reduceAdd]) <;> rfl) (h : givesF σ N H σ h' = some H' := by (try simp (maxSteps := 1000000) only [givesF, setF, updF, Fam.zeroth, Fam.rk, Ck.rk, C.rk, E.rk, T.rk, key, List.map_cons, List.map_nil, List.cons_append, List.nil_append, List.length_cons, List.length_nil, Option.map_some, Option.bind_some, Nat.reduceAdd, Nat.zero_add, Nat.add_zero, Nat.add_sub_cancel_left, Int.toNat_natCast, reps, List.all_cons, List.all_nil, C.flat, List.append_eq, Bool.not_true, Bool.and_true, Bool.or_false, Bool.or_self, Bool.not_false, List.append_nil, Bool.and_self, ↓trG_rk, encEr_rk0]) <;> rfl) (hv : v.rk σ N = v' := by (try simp only [givesF, setF, updF, Fam.zeroth, Fam.rk, Ck.rk, C.rk, E.rk, T.rk, key, List.map_cons, List.map_nil, List.cons_append, List.nil_append, List.length_cons, List.length_nil, Option.map_some, Option.bind_some, Nat.reduceAdd, Nat.zero_add, Nat.add_zero, Nat.add_sub_cancel_left, Int.toNat_natCast, reps, List.all_cons, List.all_nil, C.flat, List.append_eq, Bool.not_true, Bool.and_true, Bool.or_false, Bool.or_self, Bool.not_false, List.append_nil, Bool.and_self, ↓trG_rk, encEr_rk0]) <;> rfl) : RetG σ H h' v K := ret_mk3 hN h hv hk
theorem cH41cY2 {P : Program} {F : Nat} {args : List T} {H : List Fam} {K : T → List Fam → Prop} {σ : List Sg} {nl : List Fam} {args0 : List T} {h0 : List Fam} {Q : T → List Fam → Prop} {H2 H1 : List Fam} {N n : Nat} (hc : Ctr P F args0 h0 Q) (hk : ∀ v h', Q v h' → capsP h' → RetG σ H2 h' v K) (hap : apart σ = true := by rfl) (hnl : nl.all nilB = true := by rfl) (h1 : H ++ nl = H1 := by first | exact List.append_nil _ | ((try simp only [List.cons_append, List.nil_append]) <;> rfl)) (hN : H1.length = N := by (try simp only [↓List.length_cons, ↓List.length_nil, Nat.reduceAdd]) <;> rfl) (hn : H.length = n := by (try simp only [↓List.length_cons, ↓List.length_nil, Nat.reduceAdd]) <;> rfl) (hH : givesF σ N H1 σ h0 = some H2 := by (try simp (maxSteps := 1000000) only [givesF, setF, updF, Fam.zeroth, Fam.rk, Ck.rk, C.rk, E.rk, T.rk, key, List.map_cons, List.map_nil, List.cons_append, List.nil_append, List.length_cons, List.length_nil, Option.map_some, Option.bind_some, Nat.reduceAdd, Nat.zero_add, Nat.add_zero, Nat.add_sub_cancel_left, Int.toNat_natCast, reps, List.all_cons, List.all_nil, C.flat, List.append_eq, Bool.not_true, Bool.and_true, Bool.or_false, Bool.or_self, Bool.not_false, List.append_nil, Bool.and_self, ↓trG_rk]) <;> rfl) (hle : leS n H1 σ N σ h0 (belsK N (h0.map (Fam.rk σ N)) (argsK n args (args0.map (T.rk σ N)) True)) := by repeat' first | refine And.intro ?_ ?_ | exact xeC | fail) : CallK P F args H K := CallK.mk3 hc hap hnl h1 hN hn hH hle hk
set_option maxRecDepth 10000 in
set_option maxHeartbeats 8000000 in
theorem cOpenRef (l : List UInt8) (hl : l.length ≤ 400000) :
    Ctr Try.prog 23 [.c (.s (mkS l))] []
      fun v h => (bgE l ≠ 0 ∧ v = .t [.c .nilp, .c (.i .i64 (bgE l : Nat))] ∧ h = []) ∨ (bgE l = 0 ∧ ∃ X c, ers X = (bgO l).L ∧ v = .t [.c (.p 0 0 0), .c (.i .i64 0)] ∧ h = rbH (bgO l) X c) := by
  have hz : (mkS l).size = l.length := rfl
  have hm : ({ data := #[82, 66, 65, 71, 49] } : ByteArray) = mkS magic := rfl
  have t1 : (mkS l).extract 0 (Int.toNat 5) = mkS (l.take 5) := by rw [mkS_ext]; rfl
  refine Ctr.mk' tbv mixed Try.func23 rfl rfl rfl (fun _ _ => by kernel_rfl) (by kernel_rfl) (by rfl) (by rfl) (by (repeat' first | refine And.intro ?_ ?_ | exact xeC | fail) <;> exact xmT) ?_
  have t2 : (mkS l).extract (((mkS l).size : Int) - 13 + 8).toNat (mkS l).size = mkS (l.drop (l.length - 5)) := by
    rw [mkS_ext, hz, List.take_length]
    rcases Nat.lt_or_ge l.length 5 with q | q
    · rw [show ((l.length : Int) - 13 + 8).toNat = l.length - 5 by omega]
    · rw [show ((l.length : Int) - 13 + 8).toNat = l.length - 5 by omega]
  have t3 : 18 ≤ l.length → (mkS l).extract (((mkS l).size : Int) - 13).toNat (((mkS l).size : Int) - 13 + 8).toNat = mkS ((l.drop (l.length - 13)).take 8) := fun h => by
    rw [mkS_ext, hz, show ((l.length : Int) - 13 + 8).toNat = (l.length - 13) + 8 by omega, show ((l.length : Int) - 13).toNat = l.length - 13 by omega, List.drop_take, Nat.add_sub_cancel_left]
  repeat' (first | (fail_if_success (with_reducible refine xstp ?_)); first | ((with_reducible refine And.intro (fun (hb : _ = true) => ?_) (fun (hb : _ = false) => ?_)) <;> replace hb := xnC hb <;> (try first | exact xfC | exact bff hb (by assumption) | exact bff (by assumption) hb)) | (with_reducible refine Both.mk ?_ ?_) | ((with_reducible refine And.intro ?_ ?_); focus exact xoC) | ((with_reducible refine Or.inl ⟨?_, ?_, ?_⟩); (focus rfl); focus exact xaC) | ((with_reducible refine xwB ?_ ?_); focus exact xaC) | ((with_reducible refine xwC ?_ ?_); focus exact xaC) | ((with_reducible refine xwD ?_ ?_); focus exact xaC) | ((with_reducible refine xwE ?_ ?_); focus exact xaC) | (with_reducible intro hc; (try simp only [capsP, and_true] at hc); (try exact xfC)) | ((fail_if_success (with_reducible first | refine xgon ?_ | intro _)); (conv => whnf); (fail_if_success (fail_if_success (with_reducible first | refine xstp ?_ | refine Both.mk ?_ ?_ | refine xgon ?_ | intro _)))))
  · skip
    have hE : bgE l = 1 := if_pos (by omega)
    refine FinK.mk ⟨[], _, _, .inl ⟨by rw [hE]; decide, by rw [hE], rfl⟩, ?_⟩
    (repeat' first | refine And.intro ?_ ?_ | exact xeC | fail)
  rw [t3 (by omega)]
  have h8 : ((l.drop (l.length - 13)).take 8).length = 8 := by rw [List.length_take, List.length_drop]; omega
  have hA : bgA l = le8 ((l.drop (l.length - 13)).take 8) := rfl
  refine cH41cY2 (σ := []) (nl := []) (coffset ((l.drop (l.length - 13)).take 8) h8) ?_
  rintro v h' ⟨⟨z, rfl, hzz⟩, rfl⟩ hcaps
  rw [← hA] at hzz
  refine rH41cY0 ?_
  repeat' (first | (fail_if_success (with_reducible refine xstp ?_)); first | ((with_reducible refine And.intro (fun (hb : _ = true) => ?_) (fun (hb : _ = false) => ?_)) <;> replace hb := xnC hb <;> (try first | exact xfC | exact bff hb (by assumption) | exact bff (by assumption) hb)) | (with_reducible refine Both.mk ?_ ?_) | ((with_reducible refine And.intro ?_ ?_); focus exact xoC) | ((with_reducible refine Or.inl ⟨?_, ?_, ?_⟩); (focus rfl); focus exact xaC) | ((with_reducible refine xwB ?_ ?_); focus exact xaC) | ((with_reducible refine xwC ?_ ?_); focus exact xaC) | ((with_reducible refine xwD ?_ ?_); focus exact xaC) | ((with_reducible refine xwE ?_ ?_); focus exact xaC) | (with_reducible intro hc; (try simp only [capsP, and_true] at hc); (try exact xfC)) | ((fail_if_success (with_reducible first | refine xgon ?_ | intro _)); (conv => whnf); (fail_if_success (fail_if_success (with_reducible first | refine xstp ?_ | refine Both.mk ?_ ?_ | refine xgon ?_ | intro _)))))
  · rw [t1, hm, mkS_inj] at hb
    have hE : bgE l = 2 := (by unfold bgE; rw [if_neg (by omega), if_pos (fun q => hb q.1)])
    refine FinK.mk ⟨[], _, _, .inl ⟨by rw [hE]; decide, by rw [hE], rfl⟩, ?_⟩
    (repeat' first | refine And.intro ?_ ?_ | exact xeC | fail)
  · rw [t2, hm, mkS_inj] at hb
    have hE : bgE l = 2 := (by unfold bgE; rw [if_neg (by omega), if_pos (fun q => hb q.2.1)])
    refine FinK.mk ⟨[], _, _, .inl ⟨by rw [hE]; decide, by rw [hE], rfl⟩, ?_⟩
    (repeat' first | refine And.intro ?_ ?_ | exact xeC | fail)
  · skip
    have hE : bgE l = 2 := (by unfold bgE; rw [if_neg (by omega), if_pos (fun q => by have := q.2.2.1; have := q.2.2.2; omega)])
    refine FinK.mk ⟨[], _, _, .inl ⟨by rw [hE]; decide, by rw [hE], rfl⟩, ?_⟩
    (repeat' first | refine And.intro ?_ ?_ | exact xeC | fail)
  · skip
    have hE : bgE l = 2 := (by unfold bgE; rw [if_neg (by omega), if_pos (fun q => by have := q.2.2.2; omega)])
    refine FinK.mk ⟨[], _, _, .inl ⟨by rw [hE]; decide, by rw [hE], rfl⟩, ?_⟩
    (repeat' first | refine And.intro ?_ ?_ | exact xeC | fail)
  have hh2 : l.drop (l.length - 5) = magic := by rw [← mkS_inj, ← hm, ← t2]; assumption
  have hh1 : l.take 5 = magic := by rw [← mkS_inj, ← hm, ← t1]; assumption
  obtain rfl : z = (bgA l : Nat) := by omega
  have h5 : 5 ≤ bgA l := by omega
  have h13 : bgA l ≤ l.length - 13 := by omega
  have hsl : (mkS l).extract (((bgA l : Nat) : Int)).toNat (((mkS l).size : Int) - 13).toNat = mkS ((l.take (l.length - 13)).drop (bgA l)) := by rw [mkS_ext, hz, show ((l.length : Int) - 13).toNat = l.length - 13 by omega, Int.toNat_natCast]
  rw [hsl]
  have hB : ((l.take (l.length - 13)).drop (bgA l)).length ≤ 400000 := by rw [List.length_drop, List.length_take]; omega
  refine cH41cY2 (σ := []) (nl := []) (cexaR ((l.take (l.length - 13)).drop (bgA l)) (by omega)) ?_
  rintro v h' ⟨rfl, rfl⟩ hcaps
  refine rH41cY0 ?_
  have hxl := exaL_len ((l.take (l.length - 13)).drop (bgA l))
  have hX : exaL ((l.take (l.length - 13)).drop (bgA l)) = bgX l := rfl
  rw [hX] at hxl ⊢
  have hE1 : bgE l = if (bgX l).2 ≠ 0 then (bgX l).2 else if (ixL (mkS (bgX l).1)).2 = true ∧ ordE (ixL (mkS (bgX l).1)).1 (bgA l) then 0 else 2 := by
    unfold bgE
    rw [if_neg (by omega), if_neg (fun q => q ⟨hh1, hh2, h5, h13⟩)]
  repeat' (first | (fail_if_success (with_reducible refine xstp ?_)); first | ((with_reducible refine And.intro (fun (hb : _ = true) => ?_) (fun (hb : _ = false) => ?_)) <;> replace hb := xnC hb <;> (try first | exact xfC | exact bff hb (by assumption) | exact bff (by assumption) hb)) | (with_reducible refine Both.mk ?_ ?_) | ((with_reducible refine And.intro ?_ ?_); focus exact xoC) | ((with_reducible refine Or.inl ⟨?_, ?_, ?_⟩); (focus rfl); focus exact xaC) | ((with_reducible refine xwB ?_ ?_); focus exact xaC) | ((with_reducible refine xwC ?_ ?_); focus exact xaC) | ((with_reducible refine xwD ?_ ?_); focus exact xaC) | ((with_reducible refine xwE ?_ ?_); focus exact xaC) | (with_reducible intro hc; (try simp only [capsP, and_true] at hc); (try exact xfC)) | ((fail_if_success (with_reducible first | refine xgon ?_ | intro _)); (conv => whnf); (fail_if_success (fail_if_success (with_reducible first | refine xstp ?_ | refine Both.mk ?_ ?_ | refine xgon ?_ | intro _)))))
  · rw [if_pos (by omega)] at hE1
    rw [hE1]
    refine FinK.mk ⟨[], _, _, .inl ⟨by omega, rfl, rfl⟩, ?_⟩
    (repeat' first | refine And.intro ?_ ?_ | exact xeC | fail)
  rw [if_neg (by omega)] at hE1
  have hzx : (mkS (bgX l).1).size = (bgX l).1.length := rfl
  refine cH41cY2 (σ := []) (nl := []) (centries (mkS (bgX l).1) (bgA l) (by omega) (by omega)) ?_
  rintro v h' ⟨X, c, okb, hk1, hk3, rfl, rfl⟩ hcaps
  have hO := bgO_L l
  have hO1 : (bgO l).s = l := by simp only [bgO]
  have hO2 : (bgO l).ix = bgA l := by simp only [bgO]
  generalize ixL (mkS (bgX l).1) = r at *
  refine rH41cY1 ?_
  repeat' (first | (fail_if_success (with_reducible refine xstp ?_)); first | ((with_reducible refine And.intro (fun (hb : _ = true) => ?_) (fun (hb : _ = false) => ?_)) <;> replace hb := xnC hb <;> (try first | exact xfC | exact bff hb (by assumption) | exact bff (by assumption) hb)) | (with_reducible refine Both.mk ?_ ?_) | ((with_reducible refine And.intro ?_ ?_); focus exact xoC) | ((with_reducible refine Or.inl ⟨?_, ?_, ?_⟩); (focus rfl); focus exact xaC) | ((with_reducible refine xwB ?_ ?_); focus exact xaC) | ((with_reducible refine xwC ?_ ?_); focus exact xaC) | ((with_reducible refine xwD ?_ ?_); focus exact xaC) | ((with_reducible refine xwE ?_ ?_); focus exact xaC) | (with_reducible intro hc; (try simp only [capsP, and_true] at hc); (try exact xfC)) | ((fail_if_success (with_reducible first | refine xgon ?_ | intro _)); (conv => whnf); (fail_if_success (fail_if_success (with_reducible first | refine xstp ?_ | refine Both.mk ?_ ?_ | refine xgon ?_ | intro _)))))
  · rw [if_neg (fun q => by have := hk1.2 q; rw [hb] at this; cases this)] at hE1
    have hE : bgE l = 2 := hE1
    refine FinK.mk ⟨[], _, _, .inl ⟨by rw [hE]; decide, by rw [hE], rfl⟩, ?_⟩
    (repeat' first | refine And.intro ?_ ?_ | exact xeC | fail)
  · have hok := hk1.1 hb
    rw [if_pos hok] at hE1
    refine FinK.mk ⟨[2, 0, 1], _, _, .inr ⟨hE1, X, c, by rw [hO]; exact hk3 hb, rfl, rfl⟩, ?_⟩
    (repeat' first | refine And.intro ?_ ?_ | exact xeC | fail)
    all_goals exact xmT
end Go.Proofs.Ytkjkbpnhocjenaa
namespace Go.Proofs.Ytkjkbpnhocjenaa
open Go.X
set_option linter.unusedSimpArgs false
set_option linter.unusedVariables false
open P4
open P5
theorem talA_bd {U : List Tl} {t : List UInt8} {n M : Nat} (h : ∀ p ∈ U, p.2 ≤ M) : ∀ p ∈ talA U t n, p.2 ≤ M + n := by
  induction U with
  | nil =>
    intro p hp
    rw [show talA [] t n = [(t, n)] from rfl, List.mem_singleton] at hp
    subst hp
    simp only
    omega
  | cons a U ih =>
    obtain ⟨u, m⟩ := a
    have ha := h (u, m) (List.mem_cons_self ..)
    have ih := ih fun p hp => h p (List.mem_cons_of_mem _ hp)
    intro p hp
    unfold talA at hp
    split at hp
    · rcases List.mem_cons.1 hp with rfl | hp
      · simp only; omega
      · have := h p hp; omega
    · split at hp
      · rcases List.mem_cons.1 hp with rfl | hp
        · simp only at ha ⊢; omega
        · have := h p (List.mem_cons_of_mem _ hp); omega
      · rcases List.mem_cons.1 hp with rfl | hp
        · simp only at ha ⊢; omega
        · exact ih p hp
theorem foldT_bd {F : List Tl} (h : ∀ p ∈ F, p.2 ≤ 1099511627776) : ∀ p ∈ foldT F, p.2 ≤ 1099511627776 * F.length := by
  suffices ∀ k, k ≤ F.length → ∀ p ∈ foldT (F.take k), p.2 ≤ 1099511627776 * k by
    have := this F.length (Nat.le_refl _)
    rwa [List.take_length] at this
  intro k
  induction k with
  | zero => intro _ p hp; cases hp
  | succ k ih =>
    intro hk p hp
    rw [take_snocG F (by omega), foldT_snoc] at hp
    have h1 := talA_bd (ih (by omega)) p hp
    have h2 := h _ (mem_getD (show k < F.length by omega))
    omega
theorem rH41gA0 {σ : List Sg} {H h' : List Fam} {v : T} {K : T → List Fam → Prop} {H' : List Fam} {v' : T} {N : Nat} (hk : K v' H') (hN : H.length = N := by (try simp only [↓List.length_cons, ↓List.length_nil, Nat.reduceAdd]) <;> rfl) (h : givesF σ N H σ h' = some H' := by (try simp (maxSteps := 1000000) only [givesF, setF, updF, Fam.zeroth, Fam.rk, Ck.rk, C.rk, E.rk, T.rk, key, List.map_cons, List.map_nil, List.cons_append, List.nil_append, List.length_cons, List.length_nil, Option.map_some, Option.bind_some, Nat.reduceAdd, Nat.zero_add, Nat.add_zero, Nat.add_sub_cancel_left, Int.toNat_natCast, reps, List.all_cons, List.all_nil, C.flat, List.append_eq, Bool.not_true, Bool.and_true, Bool.or_false, Bool.or_self, Bool.not_false, List.append_nil, Bool.and_self, ↓trG_rk]) <;> rfl) (hv : v.rk σ N = v' := by (try simp only [givesF, setF, updF, Fam.zeroth, Fam.rk, Ck.rk, C.rk, E.rk, T.rk, key, List.map_cons, List.map_nil, List.cons_append, List.nil_append, List.length_cons, List.length_nil, Option.map_some, Option.bind_some, Nat.reduceAdd, Nat.zero_add, Nat.add_zero, Nat.add_sub_cancel_left, Int.toNat_natCast, reps, List.all_cons, List.all_nil, C.flat, List.append_eq, Bool.not_true, Bool.and_true, Bool.or_false, Bool.or_self, Bool.not_false, List.append_nil, Bool.and_self, ↓trG_rk]) <;> rfl) : RetG σ H h' v K := ret_mk3 hN h hv hk
theorem cH41gA1 {P : Program} {F : Nat} {args : List T} {H : List Fam} {K : T → List Fam → Prop} {σ : List Sg} {nl : List Fam} {args0 : List T} {h0 : List Fam} {Q : T → List Fam → Prop} {H2 H1 : List Fam} {N n : Nat} (hc : Ctr P F args0 h0 Q) (hk : ∀ v h', Q v h' → capsP h' → RetG σ H2 h' v K) (hap : apart σ = true := by rfl) (hnl : nl.all nilB = true := by rfl) (h1 : H ++ nl = H1 := by first | exact List.append_nil _ | ((try simp only [List.cons_append, List.nil_append]) <;> rfl)) (hN : H1.length = N := by (try simp only [↓List.length_cons, ↓List.length_nil, Nat.reduceAdd]) <;> rfl) (hn : H.length = n := by (try simp only [↓List.length_cons, ↓List.length_nil, Nat.reduceAdd]) <;> rfl) (hH : givesF σ N H1 σ h0 = some H2 := by (try simp (maxSteps := 1000000) only [givesF, setF, updF, Fam.zeroth, Fam.rk, Ck.rk, C.rk, E.rk, T.rk, key, List.map_cons, List.map_nil, List.cons_append, List.nil_append, List.length_cons, List.length_nil, Option.map_some, Option.bind_some, Nat.reduceAdd, Nat.zero_add, Nat.add_zero, Nat.add_sub_cancel_left, Int.toNat_natCast, reps, List.all_cons, List.all_nil, C.flat, List.append_eq, Bool.not_true, Bool.and_true, Bool.or_false, Bool.or_self, Bool.not_false, List.append_nil, Bool.and_self, ↓trG_rk]) <;> rfl) (hle : leS n H1 σ N σ h0 (belsK N (h0.map (Fam.rk σ N)) (argsK n args (args0.map (T.rk σ N)) True)) := by repeat' first | refine And.intro ?_ ?_ | exact xeC | fail) : CallK P F args H K := CallK.mk3 hc hap hnl h1 hN hn hH hle hk
set_option maxRecDepth 10000 in
set_option maxHeartbeats 16000000 in
theorem call_ (b : Bg) (X : List Er) (c : Nat) (hB : BOk b) (hX : ers X = b.L) :
    Ctr Try.prog 53 [.c (.p 0 0 0)] (rbH b X c)
      fun v h => ∃ c', v = .c (.sl 3 0 2 0 (allT b).length c') ∧ h = rbH b X c ++ [.one (tlR true (allT b) c')] := by
  have hLl : b.L.length = X.length := by rw [← hX]; exact List.length_map _
  have hgk : ∀ i, b.L.getD i default = (X.getD i default).e := fun i => by rw [← hX, getErs]
  have hn := hB.n
  have hfl := hB.flat
  have hcb : ∀ p ∈ flatT b, p.2 ≤ 1099511627776 := fun p hp => by
    obtain ⟨y, hy, hq⟩ := List.mem_flatMap.1 hp
    exact ((hB.sz y hy).2 p hq).2
  have hsub : ∀ A B : List Tl, A ++ B = flatT b → A.length ≤ 1000000 ∧ (∀ p ∈ foldT A, p.2 ≤ 4000000000000000000) := fun A B h => by
    have hl : A.length ≤ 1000000 := by rw [← h, List.length_append] at hfl; omega
    refine ⟨hl, fun p hp => ?_⟩
    have := foldT_bd (F := A) (fun q hq => hcb q (by rw [← h]; exact List.mem_append.2 (.inl hq))) p hp
    have : 1099511627776 * A.length ≤ 1099511627776 * 1000000 := Nat.mul_le_mul_left _ hl
    omega
  rw [allT_eq]
  unfold flatT at *
  refine Ctr.mk' tbv mixed Try.func53 rfl rfl rfl (fun _ _ => by kernel_rfl) (by kernel_rfl) (by rfl) (by rfl) (by (repeat' first | refine And.intro ?_ ?_ | exact xeC | fail) <;> exact xmT) ?_
  repeat' (first | (fail_if_success (with_reducible refine xstp ?_)); first | ((with_reducible refine And.intro (fun (hb : _ = true) => ?_) (fun (hb : _ = false) => ?_)) <;> replace hb := xnC hb <;> (try first | exact xfC | exact bff hb (by assumption) | exact bff (by assumption) hb)) | (with_reducible refine Both.mk ?_ ?_) | ((with_reducible refine And.intro ?_ ?_); focus exact xoC) | ((with_reducible refine Or.inl ⟨?_, ?_, ?_⟩); (focus rfl); focus exact xaC) | ((with_reducible refine xwB ?_ ?_); focus exact xaC) | ((with_reducible refine xwC ?_ ?_); focus exact xaC) | ((with_reducible refine xwD ?_ ?_); focus exact xaC) | ((with_reducible refine xwE ?_ ?_); focus exact xaC) | (with_reducible intro hc; (try simp only [capsP, and_true] at hc); (try exact xfC)) | ((fail_if_success (with_reducible first | refine xgon ?_ | intro _)); (conv => whnf); (fail_if_success (fail_if_success (with_reducible first | refine xstp ?_ | refine Both.mk ?_ ?_ | refine xgon ?_ | intro _)))))
  refine LoopK.mk' {p : Nat × Nat // p.1 ≤ X.length}
    (fun ⟨(i, c1), _⟩ => ⟨[(0, .c (.p 0 0 0)), (3, .c (.sl 3 0 2 0 (foldT ((b.L.take i).flatMap En.T)).length c1)), (4, .c (.i .i64 (i : Nat)))],
      [.one (rbC b 1 X.length c), .one (erR 2 X c), .many (trG X), .one (tlR true (foldT ((b.L.take i).flatMap En.T)) c1)]⟩) (fun p => X.length - p.1.1)
    ⟨⟨(0, 0), Nat.zero_le _⟩, [0, 1, 2, 99], ?_⟩ ?_
  · (repeat' first | refine And.intro ?_ ?_ | exact xeC | fail)
    all_goals first
      | exact xmT
      | (intro i hi; exact absurd hi (Nat.not_lt_zero i))
      | skip
  rintro ⟨⟨i, c1⟩, hi⟩
  simp only at hi
  have e2 : 0 + ((i : Nat) : Int).toNat = i := by omega
  rcases Nat.lt_or_ge i X.length with hlt | hge
  · have hts := flatT_take b.L (i := i) (by omega)
    rw [hgk] at hts
    have g1 : ixG trC X i = tlR true (X.getD i default).e.T (X.getD i default).cap := ixG_at hlt
    have hTl := (hB.sz (b.L.getD i default) (by rw [getD_at (by omega)]; exact List.getElem_mem _)).1
    rw [hgk] at hTl
    repeat' (first | (fail_if_success (with_reducible refine xstp ?_)); first | ((with_reducible refine And.intro (fun (hb : _ = true) => ?_) (fun (hb : _ = false) => ?_)) <;> replace hb := xnC hb <;> (try first | exact xfC | exact bff hb (by assumption) | exact bff (by assumption) hb)) | (with_reducible refine Both.mk ?_ ?_) | ((with_reducible refine And.intro ?_ ?_); focus exact xoC) | ((with_reducible refine Or.inl ⟨?_, ?_, ?_⟩); (focus rfl); focus exact xaC) | ((with_reducible refine xwB ?_ ?_); focus exact xaC) | ((with_reducible refine xwC ?_ ?_); focus exact xaC) | ((with_reducible refine xwD ?_ ?_); focus exact xaC) | ((with_reducible refine xwE ?_ ?_); focus exact xaC) | (with_reducible intro hc; (try simp only [capsP, and_true] at hc); (try exact xfC)) | ((fail_if_success (with_reducible first | refine xgon ?_ | intro _)); (conv => whnf); (fail_if_success (fail_if_success (with_reducible first | refine xstp ?_ | refine Both.mk ?_ ?_ | refine xgon ?_ | intro _)))))
    refine LoopK.mk' {p : Nat × Nat // p.1 ≤ (X.getD i default).e.T.length}
      (fun ⟨(k, c2), _⟩ => ⟨[(0, .c (.p 0 0 0)), (3, .c (.sl 3 0 2 0 (foldT ((b.L.take i).flatMap En.T ++ (X.getD i default).e.T.take k)).length c2)), (4, .c (.i .i64 (i : Nat))), (5, .c (.i .i64 (k : Nat)))],
        [.one (rbC b 1 X.length c), .one (erR 2 X c), .many (trG X), .one (tlR true (foldT ((b.L.take i).flatMap En.T ++ (X.getD i default).e.T.take k)) c2)]⟩) (fun p => (X.getD i default).e.T.length - p.1.1)
      ⟨⟨(0, c1), Nat.zero_le _⟩, [0, 1, 2, 3], ?_⟩ ?_
    · (repeat' first | refine And.intro ?_ ?_ | exact xeC | fail)
      all_goals first
        | exact xmT
        | (simp; done)
        | skip
    rintro ⟨⟨k, c2⟩, hk⟩
    simp only at hk
    have e5 : 0 + ((k : Nat) : Int).toNat = k := by omega
    have hsp : ((b.L.take i).flatMap En.T ++ (X.getD i default).e.T.take k) ++ ((X.getD i default).e.T.drop k ++ (b.L.drop (i + 1)).flatMap En.T) = b.L.flatMap En.T := by
      rw [List.append_assoc, ← List.append_assoc ((X.getD i default).e.T.take k), List.take_append_drop, ← List.append_assoc, ← hts, ← List.flatMap_append, List.take_append_drop]
    obtain ⟨hs1, hs2⟩ := hsub _ _ hsp
    have hfl1 := foldT_len ((b.L.take i).flatMap En.T ++ (X.getD i default).e.T.take k)
    rcases Nat.lt_or_ge k (X.getD i default).e.T.length with hkl | hkg
    · have hts2 := take_snocG (X.getD i default).e.T hkl
      have hcv2 := hcb ((X.getD i default).e.T.getD k default) (by rw [← hsp]; exact List.mem_append.2 (.inr (List.mem_append.2 (.inl (by rw [drop_consG _ hkl]; exact List.mem_cons_self ..)))))
      have hfs := foldT_snoc ((b.L.take i).flatMap En.T ++ (X.getD i default).e.T.take k) ((X.getD i default).e.T.getD k default)
      repeat' (first | (fail_if_success (with_reducible refine xstp ?_)); first | ((with_reducible refine And.intro (fun (hb : _ = true) => ?_) (fun (hb : _ = false) => ?_)) <;> replace hb := xnC hb <;> (try first | exact xfC | exact bff hb (by assumption) | exact bff (by assumption) hb)) | (with_reducible refine Both.mk ?_ ?_) | ((with_reducible refine And.intro ?_ ?_); focus exact xoC) | ((with_reducible refine Or.inl ⟨?_, ?_, ?_⟩); (focus rfl); focus exact xaC) | ((with_reducible refine xwB ?_ ?_); focus exact xaC) | ((with_reducible refine xwC ?_ ?_); focus exact xaC) | ((with_reducible refine xwD ?_ ?_); focus exact xaC) | ((with_reducible refine xwE ?_ ?_); focus exact xaC) | (with_reducible intro hc; (try simp only [capsP, and_true] at hc); (try exact xfC)) | ((fail_if_success (with_reducible first | refine xgon ?_ | intro _)); (conv => whnf); (fail_if_success (fail_if_success (with_reducible first | refine xstp ?_ | refine Both.mk ?_ ?_ | refine xgon ?_ | intro _)))))
      all_goals try refine ManyK.mk ⟨tlR true (X.getD i default).e.T (X.getD i default).cap, (by rw [e2]; exact g1), ?_⟩
      all_goals (
        repeat' (first | (fail_if_success (with_reducible refine xstp ?_)); first | ((with_reducible refine And.intro (fun (hb : _ = true) => ?_) (fun (hb : _ = false) => ?_)) <;> replace hb := xnC hb <;> (try first | exact xfC | exact bff hb (by assumption) | exact bff (by assumption) hb)) | (with_reducible refine Both.mk ?_ ?_) | ((with_reducible refine And.intro ?_ ?_); focus exact xoC) | ((with_reducible refine Or.inl ⟨?_, ?_, ?_⟩); (focus rfl); focus exact xaC) | ((with_reducible refine xwB ?_ ?_); focus exact xaC) | ((with_reducible refine xwC ?_ ?_); focus exact xaC) | ((with_reducible refine xwD ?_ ?_); focus exact xaC) | ((with_reducible refine xwE ?_ ?_); focus exact xaC) | (with_reducible intro hc; (try simp only [capsP, and_true] at hc); (try exact xfC)) | ((fail_if_success (with_reducible first | refine xgon ?_ | intro _)); (conv => whnf); (fail_if_success (fail_if_success (with_reducible first | refine xstp ?_ | refine Both.mk ?_ ?_ | refine xgon ?_ | intro _)))))
        )
      all_goals try refine ManyK.mk ⟨tlR true (X.getD i default).e.T (X.getD i default).cap, (by rw [e2]; exact g1), ?_⟩
      all_goals (
        repeat' (first | (fail_if_success (with_reducible refine xstp ?_)); first | ((with_reducible refine And.intro (fun (hb : _ = true) => ?_) (fun (hb : _ = false) => ?_)) <;> replace hb := xnC hb <;> (try first | exact xfC | exact bff hb (by assumption) | exact bff (by assumption) hb)) | (with_reducible refine Both.mk ?_ ?_) | ((with_reducible refine And.intro ?_ ?_); focus exact xoC) | ((with_reducible refine Or.inl ⟨?_, ?_, ?_⟩); (focus rfl); focus exact xaC) | ((with_reducible refine xwB ?_ ?_); focus exact xaC) | ((with_reducible refine xwC ?_ ?_); focus exact xaC) | ((with_reducible refine xwD ?_ ?_); focus exact xaC) | ((with_reducible refine xwE ?_ ?_); focus exact xaC) | (with_reducible intro hc; (try simp only [capsP, and_true] at hc); (try exact xfC)) | ((fail_if_success (with_reducible first | refine xgon ?_ | intro _)); (conv => whnf); (fail_if_success (fail_if_success (with_reducible first | refine xstp ?_ | refine Both.mk ?_ ?_ | refine xgon ?_ | intro _)))))
        )
      all_goals try refine ManyK.mk ⟨tlR true (X.getD i default).e.T (X.getD i default).cap, (by rw [e2]; exact g1), ?_⟩
      all_goals (
        repeat' (first | (fail_if_success (with_reducible refine xstp ?_)); first | ((with_reducible refine And.intro (fun (hb : _ = true) => ?_) (fun (hb : _ = false) => ?_)) <;> replace hb := xnC hb <;> (try first | exact xfC | exact bff hb (by assumption) | exact bff (by assumption) hb)) | (with_reducible refine Both.mk ?_ ?_) | ((with_reducible refine And.intro ?_ ?_); focus exact xoC) | ((with_reducible refine Or.inl ⟨?_, ?_, ?_⟩); (focus rfl); focus exact xaC) | ((with_reducible refine xwB ?_ ?_); focus exact xaC) | ((with_reducible refine xwC ?_ ?_); focus exact xaC) | ((with_reducible refine xwD ?_ ?_); focus exact xaC) | ((with_reducible refine xwE ?_ ?_); focus exact xaC) | (with_reducible intro hc; (try simp only [capsP, and_true] at hc); (try exact xfC)) | ((fail_if_success (with_reducible first | refine xgon ?_ | intro _)); (conv => whnf); (fail_if_success (fail_if_success (with_reducible first | refine xstp ?_ | refine Both.mk ?_ ?_ | refine xgon ?_ | intro _)))))
        )
      all_goals try refine ManyK.mk ⟨tlR true (X.getD i default).e.T (X.getD i default).cap, (by rw [e2]; exact g1), ?_⟩
      all_goals (
        repeat' (first | (fail_if_success (with_reducible refine xstp ?_)); first | ((with_reducible refine And.intro (fun (hb : _ = true) => ?_) (fun (hb : _ = false) => ?_)) <;> replace hb := xnC hb <;> (try first | exact xfC | exact bff hb (by assumption) | exact bff (by assumption) hb)) | (with_reducible refine Both.mk ?_ ?_) | ((with_reducible refine And.intro ?_ ?_); focus exact xoC) | ((with_reducible refine Or.inl ⟨?_, ?_, ?_⟩); (focus rfl); focus exact xaC) | ((with_reducible refine xwB ?_ ?_); focus exact xaC) | ((with_reducible refine xwC ?_ ?_); focus exact xaC) | ((with_reducible refine xwD ?_ ?_); focus exact xaC) | ((with_reducible refine xwE ?_ ?_); focus exact xaC) | (with_reducible intro hc; (try simp only [capsP, and_true] at hc); (try exact xfC)) | ((fail_if_success (with_reducible first | refine xgon ?_ | intro _)); (conv => whnf); (fail_if_success (fail_if_success (with_reducible first | refine xstp ?_ | refine Both.mk ?_ ?_ | refine xgon ?_ | intro _)))))
        )
      all_goals (
        rw [e2, e5]
        refine cH41gA1 (σ := [.whole 3]) (nl := []) (cadd (foldT ((b.L.take i).flatMap En.T ++ (X.getD i default).e.T.take k)) true c2 ((X.getD i default).e.T.getD k default).1 ((X.getD i default).e.T.getD k default).2 (by omega) (by omega) hs2) ?_ (hle := by (repeat' first | refine And.intro ?_ ?_ | exact xeC | fail) <;> exact xmT)
        rw [← hfs, List.append_assoc, ← hts2]
        rintro v h' ⟨c4, rfl, rfl⟩ hcaps
        refine rH41gA0 ?_
        repeat' (first | (fail_if_success (with_reducible refine xstp ?_)); first | ((with_reducible refine And.intro (fun (hb : _ = true) => ?_) (fun (hb : _ = false) => ?_)) <;> replace hb := xnC hb <;> (try first | exact xfC | exact bff hb (by assumption) | exact bff (by assumption) hb)) | (with_reducible refine Both.mk ?_ ?_) | ((with_reducible refine And.intro ?_ ?_); focus exact xoC) | ((with_reducible refine Or.inl ⟨?_, ?_, ?_⟩); (focus rfl); focus exact xaC) | ((with_reducible refine xwB ?_ ?_); focus exact xaC) | ((with_reducible refine xwC ?_ ?_); focus exact xaC) | ((with_reducible refine xwD ?_ ?_); focus exact xaC) | ((with_reducible refine xwE ?_ ?_); focus exact xaC) | (with_reducible intro hc; (try simp only [capsP, and_true] at hc); (try exact xfC)) | ((fail_if_success (with_reducible first | refine xgon ?_ | intro _)); (conv => whnf); (fail_if_success (fail_if_success (with_reducible first | refine xstp ?_ | refine Both.mk ?_ ?_ | refine xgon ?_ | intro _)))))
        refine ⟨⟨(k + 1, c4), hkl⟩, [0, 1, 2, 4], by simp only; omega, ?_⟩
        (repeat' first | refine And.intro ?_ ?_ | exact xeC | fail)
        all_goals exact xmT
        )
    · obtain rfl : k = (X.getD i default).e.T.length := by omega
      repeat' (first | (fail_if_success (with_reducible refine xstp ?_)); first | ((with_reducible refine And.intro (fun (hb : _ = true) => ?_) (fun (hb : _ = false) => ?_)) <;> replace hb := xnC hb <;> (try first | exact xfC | exact bff hb (by assumption) | exact bff (by assumption) hb)) | (with_reducible refine Both.mk ?_ ?_) | ((with_reducible refine And.intro ?_ ?_); focus exact xoC) | ((with_reducible refine Or.inl ⟨?_, ?_, ?_⟩); (focus rfl); focus exact xaC) | ((with_reducible refine xwB ?_ ?_); focus exact xaC) | ((with_reducible refine xwC ?_ ?_); focus exact xaC) | ((with_reducible refine xwD ?_ ?_); focus exact xaC) | ((with_reducible refine xwE ?_ ?_); focus exact xaC) | (with_reducible intro hc; (try simp only [capsP, and_true] at hc); (try exact xfC)) | ((fail_if_success (with_reducible first | refine xgon ?_ | intro _)); (conv => whnf); (fail_if_success (fail_if_success (with_reducible first | refine xstp ?_ | refine Both.mk ?_ ?_ | refine xgon ?_ | intro _)))))
      refine ⟨⟨(i + 1, c2), hlt⟩, [0, 1, 2, 3], by simp only; omega, ?_⟩
      rw [List.take_length, ← hts]
      (repeat' first | refine And.intro ?_ ?_ | exact xeC | fail)
      all_goals exact xmT
  · obtain rfl : i = X.length := by omega
    have hta : b.L.take X.length = b.L := by rw [← hLl]; exact List.take_length
    repeat' (first | (fail_if_success (with_reducible refine xstp ?_)); first | ((with_reducible refine And.intro (fun (hb : _ = true) => ?_) (fun (hb : _ = false) => ?_)) <;> replace hb := xnC hb <;> (try first | exact xfC | exact bff hb (by assumption) | exact bff (by assumption) hb)) | (with_reducible refine Both.mk ?_ ?_) | ((with_reducible refine And.intro ?_ ?_); focus exact xoC) | ((with_reducible refine Or.inl ⟨?_, ?_, ?_⟩); (focus rfl); focus exact xaC) | ((with_reducible refine xwB ?_ ?_); focus exact xaC) | ((with_reducible refine xwC ?_ ?_); focus exact xaC) | ((with_reducible refine xwD ?_ ?_); focus exact xaC) | ((with_reducible refine xwE ?_ ?_); focus exact xaC) | (with_reducible intro hc; (try simp only [capsP, and_true] at hc); (try exact xfC)) | ((fail_if_success (with_reducible first | refine xgon ?_ | intro _)); (conv => whnf); (fail_if_success (fail_if_success (with_reducible first | refine xstp ?_ | refine Both.mk ?_ ?_ | refine xgon ?_ | intro _)))))
    rw [hta]
    refine FinK.mk ⟨[0, 1, 2, 3], _, _, ⟨c1, rfl, rfl⟩, ?_⟩
    (repeat' first | refine And.intro ?_ ?_ | exact xeC | fail)
    all_goals exact xmT
end Go.Proofs.Ytkjkbpnhocjenaa
namespace Go.Proofs.Ytkjkbpnhocjenaa
open Go.X
set_option linter.unusedSimpArgs false
set_option linter.unusedVariables false
open P4
open P5
theorem rH41gB0 {σ : List Sg} {H h' : List Fam} {v : T} {K : T → List Fam → Prop} {H' : List Fam} {v' : T} {N : Nat} (hk : K v' H') (hN : H.length = N := by (try simp only [↓List.length_cons, ↓List.length_nil, Nat.reduceAdd]) <;> rfl) (h : givesF σ N H σ h' = some H' := by (try simp (maxSteps := 1000000) only [givesF, setF, updF, Fam.zeroth, Fam.rk, Ck.rk, C.rk, E.rk, T.rk, key, List.map_cons, List.map_nil, List.cons_append, List.nil_append, List.length_cons, List.length_nil, Option.map_some, Option.bind_some, Nat.reduceAdd, Nat.zero_add, Nat.add_zero, Nat.add_sub_cancel_left, Int.toNat_natCast, reps, List.all_cons, List.all_nil, C.flat, List.append_eq, Bool.not_true, Bool.and_true, Bool.or_false, Bool.or_self, Bool.not_false, List.append_nil, Bool.and_self, ↓trG_rk]) <;> rfl) (hv : v.rk σ N = v' := by (try simp only [givesF, setF, updF, Fam.zeroth, Fam.rk, Ck.rk, C.rk, E.rk, T.rk, key, List.map_cons, List.map_nil, List.cons_append, List.nil_append, List.length_cons, List.length_nil, Option.map_some, Option.bind_some, Nat.reduceAdd, Nat.zero_add, Nat.add_zero, Nat.add_sub_cancel_left, Int.toNat_natCast, reps, List.all_cons, List.all_nil, C.flat, List.append_eq, Bool.not_true, Bool.and_true, Bool.or_false, Bool.or_self, Bool.not_false, List.append_nil, Bool.and_self, ↓trG_rk]) <;> rfl) : RetG σ H h' v K := ret_mk3 hN h hv hk
theorem cH41gB1 {P : Program} {F : Nat} {args : List T} {H : List Fam} {K : T → List Fam → Prop} {σ : List Sg} {nl : List Fam} {args0 : List T} {h0 : List Fam} {Q : T → List Fam → Prop} {H2 H1 : List Fam} {N n : Nat} (hc : Ctr P F args0 h0 Q) (hk : ∀ v h', Q v h' → capsP h' → RetG σ H2 h' v K) (hap : apart σ = true := by rfl) (hnl : nl.all nilB = true := by rfl) (h1 : H ++ nl = H1 := by first | exact List.append_nil _ | ((try simp only [List.cons_append, List.nil_append]) <;> rfl)) (hN : H1.length = N := by (try simp only [↓List.length_cons, ↓List.length_nil, Nat.reduceAdd]) <;> rfl) (hn : H.length = n := by (try simp only [↓List.length_cons, ↓List.length_nil, Nat.reduceAdd]) <;> rfl) (hH : givesF σ N H1 σ h0 = some H2 := by (try simp (maxSteps := 1000000) only [givesF, setF, updF, Fam.zeroth, Fam.rk, Ck.rk, C.rk, E.rk, T.rk, key, List.map_cons, List.map_nil, List.cons_append, List.nil_append, List.length_cons, List.length_nil, Option.map_some, Option.bind_some, Nat.reduceAdd, Nat.zero_add, Nat.add_zero, Nat.add_sub_cancel_left, Int.toNat_natCast, reps, List.all_cons, List.all_nil, C.flat, List.append_eq, Bool.not_true, Bool.and_true, Bool.or_false, Bool.or_self, Bool.not_false, List.append_nil, Bool.and_self, ↓trG_rk]) <;> rfl) (hle : leS n H1 σ N σ h0 (belsK N (h0.map (Fam.rk σ N)) (argsK n args (args0.map (T.rk σ N)) True)) := by repeat' first | refine And.intro ?_ ?_ | exact xeC | fail) : CallK P F args H K := CallK.mk3 hc hap hnl h1 hN hn hH hle hk
set_option maxRecDepth 10000 in
set_option maxHeartbeats 8000000 in
theorem cTopicsRef (b : Bg) (X : List Er) (c : Nat) (hB : BOk b) (hX : ers X = b.L) :
    Ctr Try.prog 26 [.c (.p 0 0 0)] (rbH b X c)
      fun v h => ∃ c', v = .c (.sl 3 0 1 0 (topB b).length c') ∧ h = rbH b X c ++ [.one (stR true (topB b) c')] := by
  have hU := top_len hB
  have hUl : (topB b).length = (allT b).length := List.length_map _
  have htp : (allT b).map Prod.fst = topB b := rfl
  refine Ctr.mk' tbv mixed Try.func26 rfl rfl rfl (fun _ _ => by kernel_rfl) (by kernel_rfl) (by rfl) (by rfl) (by (repeat' first | refine And.intro ?_ ?_ | exact xeC | fail) <;> exact xmT) ?_
  repeat' (first | (fail_if_success (with_reducible refine xstp ?_)); first | ((with_reducible refine And.intro (fun (hb : _ = true) => ?_) (fun (hb : _ = false) => ?_)) <;> replace hb := xnC hb <;> (try first | exact xfC | exact bff hb (by assumption) | exact bff (by assumption) hb)) | (with_reducible refine Both.mk ?_ ?_) | ((with_reducible refine And.intro ?_ ?_); focus exact xoC) | ((with_reducible refine Or.inl ⟨?_, ?_, ?_⟩); (focus rfl); focus exact xaC) | ((with_reducible refine xwB ?_ ?_); focus exact xaC) | ((with_reducible refine xwC ?_ ?_); focus exact xaC) | ((with_reducible refine xwD ?_ ?_); focus exact xaC) | ((with_reducible refine xwE ?_ ?_); focus exact xaC) | (with_reducible intro hc; (try simp only [capsP, and_true] at hc); (try exact xfC)) | ((fail_if_success (with_reducible first | refine xgon ?_ | intro _)); (conv => whnf); (fail_if_success (fail_if_success (with_reducible first | refine xstp ?_ | refine Both.mk ?_ ?_ | refine xgon ?_ | intro _)))))
  refine cH41gB1 (σ := [.whole 0, .whole 1, .whole 2]) (nl := []) (call_ b X c hB hX) ?_ (hle := by (repeat' first | refine And.intro ?_ ?_ | exact xeC | fail) <;> exact xmT)
  rw [hUl] at hU
  rw [← htp]
  generalize allT b = U at *
  rintro v h' ⟨c1, rfl, rfl⟩ hcaps
  refine rH41gB0 ?_
  repeat' (first | (fail_if_success (with_reducible refine xstp ?_)); first | ((with_reducible refine And.intro (fun (hb : _ = true) => ?_) (fun (hb : _ = false) => ?_)) <;> replace hb := xnC hb <;> (try first | exact xfC | exact bff hb (by assumption) | exact bff (by assumption) hb)) | (with_reducible refine Both.mk ?_ ?_) | ((with_reducible refine And.intro ?_ ?_); focus exact xoC) | ((with_reducible refine Or.inl ⟨?_, ?_, ?_⟩); (focus rfl); focus exact xaC) | ((with_reducible refine xwB ?_ ?_); focus exact xaC) | ((with_reducible refine xwC ?_ ?_); focus exact xaC) | ((with_reducible refine xwD ?_ ?_); focus exact xaC) | ((with_reducible refine xwE ?_ ?_); focus exact xaC) | (with_reducible intro hc; (try simp only [capsP, and_true] at hc); (try exact xfC)) | ((fail_if_success (with_reducible first | refine xgon ?_ | intro _)); (conv => whnf); (fail_if_success (fail_if_success (with_reducible first | refine xstp ?_ | refine Both.mk ?_ ?_ | refine xgon ?_ | intro _)))))
  refine LoopK.mk' {p : Nat × Nat // p.1 ≤ U.length}
    (fun ⟨(i, c2), _⟩ => ⟨[(3, .c (.sl 4 0 1 0 ((U.take i).map Prod.fst).length c2)), (4, .c (.sl 3 0 2 0 U.length c1)), (5, .c (.i .i64 (i : Nat)))],
      [.one (rbC b 1 X.length c), .one (erR 2 X c), .many (trG X), .one (tlR true U c1), .one (stR true ((U.take i).map Prod.fst) c2)]⟩) (fun p => U.length - p.1.1)
    ⟨⟨(0, 0), Nat.zero_le _⟩, [0, 1, 2, 3, 99], ?_⟩ ?_
  · (repeat' first | refine And.intro ?_ ?_ | exact xeC | fail)
    all_goals first
      | exact xmT
      | (intro i hi; exact absurd hi (Nat.not_lt_zero i))
      | skip
  rintro ⟨⟨i, c2⟩, hi⟩
  simp only at hi
  have e2 : 0 + ((i : Nat) : Int).toNat = i := by omega
  have hml : ((U.take i).map Prod.fst).length = i := by rw [List.length_map, List.length_take]; omega
  rcases Nat.lt_or_ge i U.length with hlt | hge
  · have hts : (U.take (i + 1)).map Prod.fst = (U.take i).map Prod.fst ++ [(U.getD i default).1] := by rw [take_snocG U hlt]; simp
    repeat' (first | (fail_if_success (with_reducible refine xstp ?_)); first | ((with_reducible refine And.intro (fun (hb : _ = true) => ?_) (fun (hb : _ = false) => ?_)) <;> replace hb := xnC hb <;> (try first | exact xfC | exact bff hb (by assumption) | exact bff (by assumption) hb)) | (with_reducible refine Both.mk ?_ ?_) | ((with_reducible refine And.intro ?_ ?_); focus exact xoC) | ((with_reducible refine Or.inl ⟨?_, ?_, ?_⟩); (focus rfl); focus exact xaC) | ((with_reducible refine xwB ?_ ?_); focus exact xaC) | ((with_reducible refine xwC ?_ ?_); focus exact xaC) | ((with_reducible refine xwD ?_ ?_); focus exact xaC) | ((with_reducible refine xwE ?_ ?_); focus exact xaC) | (with_reducible intro hc; (try simp only [capsP, and_true] at hc); (try exact xfC)) | ((fail_if_success (with_reducible first | refine xgon ?_ | intro _)); (conv => whnf); (fail_if_success (fail_if_success (with_reducible first | refine xstp ?_ | refine Both.mk ?_ ?_ | refine xgon ?_ | intro _)))))
    rename_i c4
    rw [e2]
    refine ⟨⟨(i + 1, c4), hlt⟩, [0, 1, 2, 3, 6], by simp only; omega, ?_⟩
    simp only [hts]
    (repeat' first | refine And.intro ?_ ?_ | exact xeC | fail)
    all_goals first
      | exact xmT
      | skip
    all_goals first | omega | (simp only [List.length_append, List.length_singleton]; done) | (rw [List.length_append, List.length_singleton]; omega) | (intro i hi; (first | refine app_rowG _ _ _ _ ?_ i hi | refine app_row _ _ _ ?_ i hi); first | rfl | (simp only [Int.toNat_natCast, Nat.zero_add]; rfl))
  · obtain rfl : i = U.length := by omega
    have hta : U.take U.length = U := List.take_length
    repeat' (first | (fail_if_success (with_reducible refine xstp ?_)); first | ((with_reducible refine And.intro (fun (hb : _ = true) => ?_) (fun (hb : _ = false) => ?_)) <;> replace hb := xnC hb <;> (try first | exact xfC | exact bff hb (by assumption) | exact bff (by assumption) hb)) | (with_reducible refine Both.mk ?_ ?_) | ((with_reducible refine And.intro ?_ ?_); focus exact xoC) | ((with_reducible refine Or.inl ⟨?_, ?_, ?_⟩); (focus rfl); focus exact xaC) | ((with_reducible refine xwB ?_ ?_); focus exact xaC) | ((with_reducible refine xwC ?_ ?_); focus exact xaC) | ((with_reducible refine xwD ?_ ?_); focus exact xaC) | ((with_reducible refine xwE ?_ ?_); focus exact xaC) | (with_reducible intro hc; (try simp only [capsP, and_true] at hc); (try exact xfC)) | ((fail_if_success (with_reducible first | refine xgon ?_ | intro _)); (conv => whnf); (fail_if_success (fail_if_success (with_reducible first | refine xstp ?_ | refine Both.mk ?_ ?_ | refine xgon ?_ | intro _)))))
    rw [hta]
    refine FinK.mk ⟨[0, 1, 2, 4], _, _, ⟨c2, rfl, rfl⟩, ?_⟩
    (repeat' first | refine And.intro ?_ ?_ | exact xeC | fail)
    all_goals exact xmT
set_option maxRecDepth 10000 in
set_option maxHeartbeats 8000000 in
theorem cCountRef (b : Bg) (X : List Er) (c : Nat) (t : List UInt8) (hB : BOk b) (hX : ers X = b.L) :
    Ctr Try.prog 27 [.c (.p 0 0 0), .c (.s (mkS t))] (rbH b X c)
      fun v h => v = .c (.i .i64 (cntF (flatT b) t : Nat)) ∧ h = rbH b X c := by
  have hfl := hB.flat
  have hcb : ∀ p ∈ flatT b, p.2 ≤ 1099511627776 := fun p hp => by
    obtain ⟨y, hy, hq⟩ := List.mem_flatMap.1 hp
    exact ((hB.sz y hy).2 p hq).2
  have htot : cntF (flatT b) t ≤ 1099511627776 * 1000000 := by have := cntF_le (flatT b) t hcb; omega
  have hfo := cntF_fold (flatT b) t
  rw [← allT_eq] at hfo
  have hU := foldT_len (flatT b)
  rw [← allT_eq] at hU
  rw [← hfo] at htot ⊢
  have hbd : ∀ p ∈ allT b, p.2 ≤ 1099511627776000000 := fun p hp => by
    rw [allT_eq] at hp
    have := foldT_bd hcb p hp
    have : 1099511627776 * (flatT b).length ≤ 1099511627776 * 1000000 := Nat.mul_le_mul_left _ hfl
    omega
  refine Ctr.mk' tbv mixed Try.func27 rfl rfl rfl (fun _ _ => by kernel_rfl) (by kernel_rfl) (by rfl) (by rfl) (by (repeat' first | refine And.intro ?_ ?_ | exact xeC | fail) <;> exact xmT) ?_
  repeat' (first | (fail_if_success (with_reducible refine xstp ?_)); first | ((with_reducible refine And.intro (fun (hb : _ = true) => ?_) (fun (hb : _ = false) => ?_)) <;> replace hb := xnC hb <;> (try first | exact xfC | exact bff hb (by assumption) | exact bff (by assumption) hb)) | (with_reducible refine Both.mk ?_ ?_) | ((with_reducible refine And.intro ?_ ?_); focus exact xoC) | ((with_reducible refine Or.inl ⟨?_, ?_, ?_⟩); (focus rfl); focus exact xaC) | ((with_reducible refine xwB ?_ ?_); focus exact xaC) | ((with_reducible refine xwC ?_ ?_); focus exact xaC) | ((with_reducible refine xwD ?_ ?_); focus exact xaC) | ((with_reducible refine xwE ?_ ?_); focus exact xaC) | (with_reducible intro hc; (try simp only [capsP, and_true] at hc); (try exact xfC)) | ((fail_if_success (with_reducible first | refine xgon ?_ | intro _)); (conv => whnf); (fail_if_success (fail_if_success (with_reducible first | refine xstp ?_ | refine Both.mk ?_ ?_ | refine xgon ?_ | intro _)))))
  refine cH41gB1 (σ := [.whole 0, .whole 1, .whole 2]) (nl := []) (call_ b X c hB hX) ?_ (hle := by (repeat' first | refine And.intro ?_ ?_ | exact xeC | fail) <;> exact xmT)
  generalize allT b = U at *
  rintro v h' ⟨c1, rfl, rfl⟩ hcaps
  refine rH41gB0 ?_
  repeat' (first | (fail_if_success (with_reducible refine xstp ?_)); first | ((with_reducible refine And.intro (fun (hb : _ = true) => ?_) (fun (hb : _ = false) => ?_)) <;> replace hb := xnC hb <;> (try first | exact xfC | exact bff hb (by assumption) | exact bff (by assumption) hb)) | (with_reducible refine Both.mk ?_ ?_) | ((with_reducible refine And.intro ?_ ?_); focus exact xoC) | ((with_reducible refine Or.inl ⟨?_, ?_, ?_⟩); (focus rfl); focus exact xaC) | ((with_reducible refine xwB ?_ ?_); focus exact xaC) | ((with_reducible refine xwC ?_ ?_); focus exact xaC) | ((with_reducible refine xwD ?_ ?_); focus exact xaC) | ((with_reducible refine xwE ?_ ?_); focus exact xaC) | (with_reducible intro hc; (try simp only [capsP, and_true] at hc); (try exact xfC)) | ((fail_if_success (with_reducible first | refine xgon ?_ | intro _)); (conv => whnf); (fail_if_success (fail_if_success (with_reducible first | refine xstp ?_ | refine Both.mk ?_ ?_ | refine xgon ?_ | intro _)))))
  refine LoopK.mk' {i : Nat // i ≤ U.length}
    (fun ⟨i, _⟩ => ⟨[(1, .c (.s (mkS t))), (5, .c (.i .i64 (cntF (U.take i) t : Nat))), (6, .c (.sl 3 0 2 0 U.length c1)), (7, .c (.i .i64 (i : Nat)))],
      [.one (rbC b 1 X.length c), .one (erR 2 X c), .many (trG X), .one (tlR true U c1)]⟩) (fun p => U.length - p.1)
    ⟨⟨0, Nat.zero_le _⟩, [0, 1, 2, 3], ?_⟩ ?_
  · (repeat' first | refine And.intro ?_ ?_ | exact xeC | fail)
    all_goals first
      | exact xmT
      | skip
  rintro ⟨i, hi⟩
  have e2 : 0 + ((i : Nat) : Int).toNat = i := by omega
  have hsp := cntF_app (U.take i) (U.drop i) t
  rw [List.take_append_drop] at hsp
  rcases Nat.lt_or_ge i U.length with hlt | hge
  · have hsn := cntF_snoc (U.take i) (U.getD i default) t
    rw [← take_snocG U hlt] at hsn
    have hmi : (U.getD (0 + ((i : Nat) : Int).toNat) default).2 ≤ 1099511627776000000 := by rw [e2]; exact hbd _ (mem_getD hlt)
    repeat' (first | (fail_if_success (with_reducible refine xstp ?_)); first | ((with_reducible refine And.intro (fun (hb : _ = true) => ?_) (fun (hb : _ = false) => ?_)) <;> replace hb := xnC hb <;> (try first | exact xfC | exact bff hb (by assumption) | exact bff (by assumption) hb)) | (with_reducible refine Both.mk ?_ ?_) | ((with_reducible refine And.intro ?_ ?_); focus exact xoC) | ((with_reducible refine Or.inl ⟨?_, ?_, ?_⟩); (focus rfl); focus exact xaC) | ((with_reducible refine xwB ?_ ?_); focus exact xaC) | ((with_reducible refine xwC ?_ ?_); focus exact xaC) | ((with_reducible refine xwD ?_ ?_); focus exact xaC) | ((with_reducible refine xwE ?_ ?_); focus exact xaC) | (with_reducible intro hc; (try simp only [capsP, and_true] at hc); (try exact xfC)) | ((fail_if_success (with_reducible first | refine xgon ?_ | intro _)); (conv => whnf); (fail_if_success (fail_if_success (with_reducible first | refine xstp ?_ | refine Both.mk ?_ ?_ | refine xgon ?_ | intro _)))))
    · rw [if_pos (.inl (mkS_nil.1 hb))] at hsn
      refine ⟨⟨i + 1, hlt⟩, [0, 1, 2, 3], by simp only; omega, ?_⟩
      simp only [hsn]
      (repeat' first | refine And.intro ?_ ?_ | exact xeC | fail)
      all_goals first
        | exact xmT
        | (rw [e2]; omega)
        | omega
        | skip
    · rw [if_pos (.inr (mkS_inj.1 hb))] at hsn
      refine ⟨⟨i + 1, hlt⟩, [0, 1, 2, 3], by simp only; omega, ?_⟩
      simp only [hsn]
      (repeat' first | refine And.intro ?_ ?_ | exact xeC | fail)
      all_goals first
        | exact xmT
        | (rw [e2]; omega)
        | omega
        | skip
    · rename_i h0
      rw [if_neg (fun q => q.elim (fun h => h0 (mkS_nil.2 h)) (fun h => hb (by rw [h])))] at hsn
      refine ⟨⟨i + 1, hlt⟩, [0, 1, 2, 3], by simp only; omega, ?_⟩
      simp only [hsn]
      (repeat' first | refine And.intro ?_ ?_ | exact xeC | fail)
      all_goals first
        | exact xmT
        | (rw [e2]; omega)
        | omega
        | skip
  · obtain rfl : i = U.length := by omega
    have hta : U.take U.length = U := List.take_length
    repeat' (first | (fail_if_success (with_reducible refine xstp ?_)); first | ((with_reducible refine And.intro (fun (hb : _ = true) => ?_) (fun (hb : _ = false) => ?_)) <;> replace hb := xnC hb <;> (try first | exact xfC | exact bff hb (by assumption) | exact bff (by assumption) hb)) | (with_reducible refine Both.mk ?_ ?_) | ((with_reducible refine And.intro ?_ ?_); focus exact xoC) | ((with_reducible refine Or.inl ⟨?_, ?_, ?_⟩); (focus rfl); focus exact xaC) | ((with_reducible refine xwB ?_ ?_); focus exact xaC) | ((with_reducible refine xwC ?_ ?_); focus exact xaC) | ((with_reducible refine xwD ?_ ?_); focus exact xaC) | ((with_reducible refine xwE ?_ ?_); focus exact xaC) | (with_reducible intro hc; (try simp only [capsP, and_true] at hc); (try exact xfC)) | ((fail_if_success (with_reducible first | refine xgon ?_ | intro _)); (conv => whnf); (fail_if_success (fail_if_success (with_reducible first | refine xstp ?_ | refine Both.mk ?_ ?_ | refine xgon ?_ | intro _)))))
    rw [hta]
    refine FinK.mk ⟨[0, 1, 2], _, _, ⟨rfl, rfl⟩, ?_⟩
    (repeat' first | refine And.intro ?_ ?_ | exact xeC | fail)
    all_goals exact xmT
end Go.Proofs.Ytkjkbpnhocjenaa
namespace Go.Proofs.Ytkjkbpnhocjenaa
open Go.X
set_option linter.unusedSimpArgs false
set_option linter.unusedVariables false
open P4
open P5
theorem rH41gC0 {σ : List Sg} {H h' : List Fam} {v : T} {K : T → List Fam → Prop} {H' : List Fam} {v' : T} {N : Nat} (hk : K v' H') (hN : H.length = N := by (try simp only [↓List.length_cons, ↓List.length_nil, Nat.reduceAdd]) <;> rfl) (h : givesF σ N H σ h' = some H' := by (try simp (maxSteps := 1000000) only [givesF, setF, updF, Fam.zeroth, Fam.rk, Ck.rk, C.rk, E.rk, T.rk, key, List.map_cons, List.map_nil, List.cons_append, List.nil_append, List.length_cons, List.length_nil, Option.map_some, Option.bind_some, Nat.reduceAdd, Nat.zero_add, Nat.add_zero, Nat.add_sub_cancel_left, Int.toNat_natCast, reps, List.all_cons, List.all_nil, C.flat, List.append_eq, Bool.not_true, Bool.and_true, Bool.or_false, Bool.or_self, Bool.not_false, List.append_nil, Bool.and_self, ↓trG_rk]) <;> rfl) (hv : v.rk σ N = v' := by (try simp only [givesF, setF, updF, Fam.zeroth, Fam.rk, Ck.rk, C.rk, E.rk, T.rk, key, List.map_cons, List.map_nil, List.cons_append, List.nil_append, List.length_cons, List.length_nil, Option.map_some, Option.bind_some, Nat.reduceAdd, Nat.zero_add, Nat.add_zero, Nat.add_sub_cancel_left, Int.toNat_natCast, reps, List.all_cons, List.all_nil, C.flat, List.append_eq, Bool.not_true, Bool.and_true, Bool.or_false, Bool.or_self, Bool.not_false, List.append_nil, Bool.and_self, ↓trG_rk]) <;> rfl) : RetG σ H h' v K := ret_mk3 hN h hv hk
theorem cH41gC1 {P : Program} {F : Nat} {args : List T} {H : List Fam} {K : T → List Fam → Prop} {σ : List Sg} {nl : List Fam} {args0 : List T} {h0 : List Fam} {Q : T → List Fam → Prop} {H2 H1 : List Fam} {N n : Nat} (hc : Ctr P F args0 h0 Q) (hk : ∀ v h', Q v h' → capsP h' → RetG σ H2 h' v K) (hap : apart σ = true := by rfl) (hnl : nl.all nilB = true := by rfl) (h1 : H ++ nl = H1 := by first | exact List.append_nil _ | ((try simp only [List.cons_append, List.nil_append]) <;> rfl)) (hN : H1.length = N := by (try simp only [↓List.length_cons, ↓List.length_nil, Nat.reduceAdd]) <;> rfl) (hn : H.length = n := by (try simp only [↓List.length_cons, ↓List.length_nil, Nat.reduceAdd]) <;> rfl) (hH : givesF σ N H1 σ h0 = some H2 := by (try simp (maxSteps := 1000000) only [givesF, setF, updF, Fam.zeroth, Fam.rk, Ck.rk, C.rk, E.rk, T.rk, key, List.map_cons, List.map_nil, List.cons_append, List.nil_append, List.length_cons, List.length_nil, Option.map_some, Option.bind_some, Nat.reduceAdd, Nat.zero_add, Nat.add_zero, Nat.add_sub_cancel_left, Int.toNat_natCast, reps, List.all_cons, List.all_nil, C.flat, List.append_eq, Bool.not_true, Bool.and_true, Bool.or_false, Bool.or_self, Bool.not_false, List.append_nil, Bool.and_self, ↓trG_rk]) <;> rfl) (hle : leS n H1 σ N σ h0 (belsK N (h0.map (Fam.rk σ N)) (argsK n args (args0.map (T.rk σ N)) True)) := by repeat' first | refine And.intro ?_ ?_ | exact xeC | fail) : CallK P F args H K := CallK.mk3 hc hap hnl h1 hN hn hH hle hk
set_option maxRecDepth 10000 in
set_option maxHeartbeats 16000000 in
theorem cchunkR (b : Bg) (X : List Er) (c k : Nat) (hb : BOk b) (hl : b.s.length ≤ 100000) (hX : ers X = b.L) (hk : k < X.length) :
    Ctr Try.prog 57 [.c (.p 0 0 0), .c (.i .i64 (k : Nat))] (rbH b X c)
      fun v h => ∃ c', v = .t [.c (.sl 3 0 3 0 (chL b k).length c'), .c (.i .i64 (chE b k : Nat))] ∧ h = rbH b X c ++ [.one (rcR true (chL b k) c')] := by
  have hLl : b.L.length = X.length := by rw [← hX]; exact List.length_map _
  have hbk := hb.at (k := k) (by omega)
  have hgk : ∀ i, b.L.getD i default = (X.getD i default).e := fun i => by rw [← hX, getErs]
  rw [hgk] at hbk
  have hn := hb.n
  have hlen := hb.len
  have hz : (mkS b.s).size = b.s.length := rfl
  have e2 : 0 + ((k : Nat) : Int).toNat = k := by omega
  have e3 : 0 + (((k : Nat) : Int) + 1).toNat = k + 1 := by omega
  have hend : endE b k = if k + 1 < X.length then (X.getD (k + 1) default).e.off else b.ix := by unfold endE; rw [hLl, hgk]
  refine Ctr.mk' tbv mixed Try.func57 rfl rfl rfl (fun _ _ => by kernel_rfl) (by kernel_rfl) (by rfl) (by rfl) (by (repeat' first | refine And.intro ?_ ?_ | exact xeC | fail) <;> exact xmT) ?_
  generalize hxx : chX b k = x
  obtain ⟨xs, xe⟩ := x
  generalize hR : recL (mkS xs) = R
  obtain ⟨hE1, hL1⟩ := chE_eq hxx hR
  rw [hgk] at hE1
  have hxx2 : exaL ((b.s.take (endE b k)).drop (X.getD k default).e.off) = (xs, xe) := by rw [← hgk]; exact hxx
  have hxl := exaL_len ((b.s.take (endE b k)).drop (X.getD k default).e.off)
  rw [hxx2, List.length_drop, List.length_take] at hxl
  simp only at hxl
  have hof2 : k + 1 < X.length → (X.getD (0 + ((k : Nat) : Int).toNat) default).e.off ≤ (X.getD (0 + (((k : Nat) : Int) + 1).toNat) default).e.off ∧ (X.getD (0 + (((k : Nat) : Int) + 1).toNat) default).e.off ≤ b.s.length := fun h => by
    rw [e2, e3]; rw [if_pos h] at hend; omega
  have hof3 : ¬ k + 1 < X.length → (X.getD (0 + ((k : Nat) : Int).toNat) default).e.off ≤ b.ix ∧ b.ix ≤ b.s.length := fun h => by
    rw [e2]; rw [if_neg h] at hend; omega
  have hext : ∀ a d, (mkS b.s).extract a d = mkS ((b.s.take d).drop a) := fun a d => mkS_ext _ _ _
  have g1 : ixG trC X k = tlR true (X.getD k default).e.T (X.getD k default).cap := ixG_at hk
  have hB : ((b.s.take (endE b k)).drop (X.getD k default).e.off).length ≤ 100000 := by rw [List.length_drop, List.length_take]; omega
  have hTk := hbk.2.2.2.1
  have hset : ∀ ck, ck = ixG trC X k → (fun y => if y = k then ck else if y = k then ck else trG X y) = trG X := fun ck h => by
    funext y
    by_cases e : y = k
    · rw [if_pos e, h, e]
    · rw [if_neg e, if_neg e]
  repeat' (first | (fail_if_success (with_reducible refine xstp ?_)); first | ((with_reducible refine And.intro (fun (hb : _ = true) => ?_) (fun (hb : _ = false) => ?_)) <;> replace hb := xnC hb <;> (try first | exact xfC | exact bff hb (by assumption) | exact bff (by assumption) hb)) | (with_reducible refine Both.mk ?_ ?_) | ((with_reducible refine And.intro ?_ ?_); focus exact xoC) | ((with_reducible refine Or.inl ⟨?_, ?_, ?_⟩); (focus rfl); focus exact xaC) | ((with_reducible refine xwB ?_ ?_); focus exact xaC) | ((with_reducible refine xwC ?_ ?_); focus exact xaC) | ((with_reducible refine xwD ?_ ?_); focus exact xaC) | ((with_reducible refine xwE ?_ ?_); focus exact xaC) | (with_reducible intro hc; (try simp only [capsP, and_true] at hc); (try exact xfC)) | ((fail_if_success (with_reducible first | refine xgon ?_ | intro _)); (conv => whnf); (fail_if_success (fail_if_success (with_reducible first | refine xstp ?_ | refine Both.mk ?_ ?_ | refine xgon ?_ | intro _)))))
  all_goals (
    first
      | rw [e2, e3, Int.toNat_natCast, Int.toNat_natCast, hext, ← (show endE b k = (X.getD (k + 1) default).e.off by rw [hend, if_pos (by omega)])]
      | rw [e2, Int.toNat_natCast, Int.toNat_natCast, hext, ← (show endE b k = b.ix by rw [hend, if_neg (by omega)])]
    refine cH41gC1 (σ := []) (nl := []) (cexaR ((b.s.take (endE b k)).drop (X.getD k default).e.off) (by omega)) ?_ (hle := by (repeat' first | refine And.intro ?_ ?_ | exact xeC | fail) <;> exact xmT)
    rintro v h' ⟨rfl, rfl⟩ hcaps
    rw [hxx2]
    refine rH41gC0 ?_
    repeat' (first | (fail_if_success (with_reducible refine xstp ?_)); first | ((with_reducible refine And.intro (fun (hb : _ = true) => ?_) (fun (hb : _ = false) => ?_)) <;> replace hb := xnC hb <;> (try first | exact xfC | exact bff hb (by assumption) | exact bff (by assumption) hb)) | (with_reducible refine Both.mk ?_ ?_) | ((with_reducible refine And.intro ?_ ?_); focus exact xoC) | ((with_reducible refine Or.inl ⟨?_, ?_, ?_⟩); (focus rfl); focus exact xaC) | ((with_reducible refine xwB ?_ ?_); focus exact xaC) | ((with_reducible refine xwC ?_ ?_); focus exact xaC) | ((with_reducible refine xwD ?_ ?_); focus exact xaC) | ((with_reducible refine xwE ?_ ?_); focus exact xaC) | (with_reducible intro hc; (try simp only [capsP, and_true] at hc); (try exact xfC)) | ((fail_if_success (with_reducible first | refine xgon ?_ | intro _)); (conv => whnf); (fail_if_success (fail_if_success (with_reducible first | refine xstp ?_ | refine Both.mk ?_ ?_ | refine xgon ?_ | intro _)))))
    · rw [if_pos (by omega)] at hE1
      have hL : chL b k = [] := by rw [hL1, if_neg (by omega)]
      rw [hL, hE1]
      refine FinK.mk ⟨[0, 1, 2, 99], _, _, ⟨0, rfl, rfl⟩, ?_⟩
      (repeat' first | refine And.intro ?_ ?_ | exact xeC | fail)
      all_goals exact xmT
    rw [if_neg (by omega)] at hE1
    refine cH41gC1 (σ := []) (nl := []) (crecsR (mkS xs) (by show xs.length ≤ _; omega)) ?_ (hle := by (repeat' first | refine And.intro ?_ ?_ | exact xeC | fail) <;> exact xmT)
    rintro v h' ⟨c3, rfl, rfl⟩ hcaps
    rw [hR]
    refine rH41gC0 ?_
    have hRl : R.length ≤ 100000 := by rw [← hR]; have := recL_len (mkS xs); have : (mkS xs).size = xs.length := rfl; omega
    have eR : ((R.length : Int) - 1).toNat = R.length - 1 := by omega
    repeat' (first | (fail_if_success (with_reducible refine xstp ?_)); first | ((with_reducible refine And.intro (fun (hb : _ = true) => ?_) (fun (hb : _ = false) => ?_)) <;> replace hb := xnC hb <;> (try first | exact xfC | exact bff hb (by assumption) | exact bff (by assumption) hb)) | (with_reducible refine Both.mk ?_ ?_) | ((with_reducible refine And.intro ?_ ?_); focus exact xoC) | ((with_reducible refine Or.inl ⟨?_, ?_, ?_⟩); (focus rfl); focus exact xaC) | ((with_reducible refine xwB ?_ ?_); focus exact xaC) | ((with_reducible refine xwC ?_ ?_); focus exact xaC) | ((with_reducible refine xwD ?_ ?_); focus exact xaC) | ((with_reducible refine xwE ?_ ?_); focus exact xaC) | (with_reducible intro hc; (try simp only [capsP, and_true] at hc); (try exact xfC)) | ((fail_if_success (with_reducible first | refine xgon ?_ | intro _)); (conv => whnf); (fail_if_success (fail_if_success (with_reducible first | refine xstp ?_ | refine Both.mk ?_ ?_ | refine xgon ?_ | intro _)))))
    · skip
      have hE : chE b k = 2 := by rw [hE1, if_neg (fun q => hb q.1)]
      have hL : chL b k = [] := by rw [hL1, if_neg (by rw [hE]; decide)]
      rw [hE, hL]
      refine FinK.mk ⟨[0, 1, 2, 99], _, _, ⟨0, rfl, rfl⟩, ?_⟩
      (repeat' first | refine And.intro ?_ ?_ | exact xeC | fail)
      all_goals exact xmT
    · skip
      have hE : chE b k = 2 := by rw [hE1, if_neg (fun q => hb q.2.1)]
      have hL : chL b k = [] := by rw [hL1, if_neg (by rw [hE]; decide)]
      rw [hE, hL]
      refine FinK.mk ⟨[0, 1, 2, 99], _, _, ⟨0, rfl, rfl⟩, ?_⟩
      (repeat' first | refine And.intro ?_ ?_ | exact xeC | fail)
      all_goals exact xmT
    · skip
      have hE : chE b k = 2 := by rw [hE1, if_neg (fun q => hb (by rw [eR]; exact q.2.2.1))]
      have hL : chL b k = [] := by rw [hL1, if_neg (by rw [hE]; decide)]
      rw [hE, hL]
      refine FinK.mk ⟨[0, 1, 2, 99], _, _, ⟨0, rfl, rfl⟩, ?_⟩
      (repeat' first | refine And.intro ?_ ?_ | exact xeC | fail)
      all_goals exact xmT
    have hel : (R.getD (R.length - 1) default).at_ = (X.getD k default).e.la := by rw [← eR]; exact hb
    rename_i hfi
    have hE2 : chE b k = if tal R = (X.getD k default).e.T then 0 else 2 := by
      rw [hE1]
      by_cases hq : tal R = (X.getD k default).e.T
      · rw [if_pos ⟨by assumption, hfi, hel, hq⟩, if_pos hq]
      · rw [if_neg (fun q => hq q.2.2.2), if_neg hq]
    clear hE1
    refine cH41gC1 (σ := [.whole 3]) (nl := []) (ctallies true R c3 (by omega)) ?_ (hle := by (repeat' first | refine And.intro ?_ ?_ | exact xeC | fail) <;> exact xmT)
    rintro v h' ⟨c4, rfl, rfl⟩ hcaps
    refine rH41gC0 ?_
    have htl := tal_le R
    repeat' (first | (fail_if_success (with_reducible refine xstp ?_)); first | ((with_reducible refine And.intro (fun (hb : _ = true) => ?_) (fun (hb : _ = false) => ?_)) <;> replace hb := xnC hb <;> (try first | exact xfC | exact bff hb (by assumption) | exact bff (by assumption) hb)) | (with_reducible refine Both.mk ?_ ?_) | ((with_reducible refine And.intro ?_ ?_); focus exact xoC) | ((with_reducible refine Or.inl ⟨?_, ?_, ?_⟩); (focus rfl); focus exact xaC) | ((with_reducible refine xwB ?_ ?_); focus exact xaC) | ((with_reducible refine xwC ?_ ?_); focus exact xaC) | ((with_reducible refine xwD ?_ ?_); focus exact xaC) | ((with_reducible refine xwE ?_ ?_); focus exact xaC) | (with_reducible intro hc; (try simp only [capsP, and_true] at hc); (try exact xfC)) | ((fail_if_success (with_reducible first | refine xgon ?_ | intro _)); (conv => whnf); (fail_if_success (fail_if_success (with_reducible first | refine xstp ?_ | refine Both.mk ?_ ?_ | refine xgon ?_ | intro _)))))
    rw [e2]
    by_cases hq : tal R = (X.getD k default).e.T
    · refine cH41gC1 (σ := [.whole 4, .mem 2 k]) (nl := []) (csame true true (tal R) (X.getD k default).e.T c4 (X.getD k default).cap (by omega)) ?_ (hle := by (repeat' first | refine And.intro ?_ ?_ | exact xeC | fail) <;> (first | (refine ManyK.mk ⟨_, g1, ?_⟩ <;> (repeat' first | refine And.intro ?_ ?_ | exact xeC | fail)) | exact xmT))
      rw [decide_eq_true (p := tal R = (X.getD k default).e.T) hq]
      rintro v h' ⟨rfl, rfl⟩ hcaps
      refine rH41gC0 ?_
      rw [hset _ g1.symm]
      repeat' (first | (fail_if_success (with_reducible refine xstp ?_)); first | ((with_reducible refine And.intro (fun (hb : _ = true) => ?_) (fun (hb : _ = false) => ?_)) <;> replace hb := xnC hb <;> (try first | exact xfC | exact bff hb (by assumption) | exact bff (by assumption) hb)) | (with_reducible refine Both.mk ?_ ?_) | ((with_reducible refine And.intro ?_ ?_); focus exact xoC) | ((with_reducible refine Or.inl ⟨?_, ?_, ?_⟩); (focus rfl); focus exact xaC) | ((with_reducible refine xwB ?_ ?_); focus exact xaC) | ((with_reducible refine xwC ?_ ?_); focus exact xaC) | ((with_reducible refine xwD ?_ ?_); focus exact xaC) | ((with_reducible refine xwE ?_ ?_); focus exact xaC) | (with_reducible intro hc; (try simp only [capsP, and_true] at hc); (try exact xfC)) | ((fail_if_success (with_reducible first | refine xgon ?_ | intro _)); (conv => whnf); (fail_if_success (fail_if_success (with_reducible first | refine xstp ?_ | refine Both.mk ?_ ?_ | refine xgon ?_ | intro _)))))
      rw [if_pos hq] at hE2
      have hL : chL b k = R := by rw [hL1, if_pos hE2]
      rw [hE2, hL]
      refine FinK.mk ⟨[0, 1, 2, 3], _, _, ⟨c3, rfl, rfl⟩, ?_⟩
      (repeat' first | refine And.intro ?_ ?_ | exact xeC | fail)
      all_goals exact xmT
    · refine cH41gC1 (σ := [.whole 4, .mem 2 k]) (nl := []) (csame true true (tal R) (X.getD k default).e.T c4 (X.getD k default).cap (by omega)) ?_ (hle := by (repeat' first | refine And.intro ?_ ?_ | exact xeC | fail) <;> (first | (refine ManyK.mk ⟨_, g1, ?_⟩ <;> (repeat' first | refine And.intro ?_ ?_ | exact xeC | fail)) | exact xmT))
      rw [decide_eq_false (p := tal R = (X.getD k default).e.T) hq]
      rintro v h' ⟨rfl, rfl⟩ hcaps
      refine rH41gC0 ?_
      rw [hset _ g1.symm]
      repeat' (first | (fail_if_success (with_reducible refine xstp ?_)); first | ((with_reducible refine And.intro (fun (hb : _ = true) => ?_) (fun (hb : _ = false) => ?_)) <;> replace hb := xnC hb <;> (try first | exact xfC | exact bff hb (by assumption) | exact bff (by assumption) hb)) | (with_reducible refine Both.mk ?_ ?_) | ((with_reducible refine And.intro ?_ ?_); focus exact xoC) | ((with_reducible refine Or.inl ⟨?_, ?_, ?_⟩); (focus rfl); focus exact xaC) | ((with_reducible refine xwB ?_ ?_); focus exact xaC) | ((with_reducible refine xwC ?_ ?_); focus exact xaC) | ((with_reducible refine xwD ?_ ?_); focus exact xaC) | ((with_reducible refine xwE ?_ ?_); focus exact xaC) | (with_reducible intro hc; (try simp only [capsP, and_true] at hc); (try exact xfC)) | ((fail_if_success (with_reducible first | refine xgon ?_ | intro _)); (conv => whnf); (fail_if_success (fail_if_success (with_reducible first | refine xstp ?_ | refine Both.mk ?_ ?_ | refine xgon ?_ | intro _)))))
      rw [if_neg hq] at hE2
      have hL : chL b k = [] := by rw [hL1, if_neg (by rw [hE2]; decide)]
      rw [hE2, hL]
      refine FinK.mk ⟨[0, 1, 2, 99], _, _, ⟨0, rfl, rfl⟩, ?_⟩
      (repeat' first | refine And.intro ?_ ?_ | exact xeC | fail)
      all_goals exact xmT
    )
end Go.Proofs.Ytkjkbpnhocjenaa
