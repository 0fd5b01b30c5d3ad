/- The walks of the writers of texts and integers, and of the closures of Text and Small. -/
import Derived.Test.YthadbaknlipacaaW4
namespace Go.Proofs.Ythadbaknlipacaa
open Go.RowKit
set_option linter.unusedVariables false

set_option maxHeartbeats 400000 in
theorem rint_any (m : Int) (w : World) (wm : (Lit.int .i64 m).wf = true) :
    Calls Try.prog 14 #[.int .i64 m] w fun e w' => e = .returned (.string (Bs.mk (P4.venc (P4.zz m)))) ∧ Below w.heap.size w w' := by
  obtain ⟨h1, h2⟩ := i64_bd m wm
  have HL := Lib.hid (P4.zz_lt m h1 h2)
  clear h1 h2
  go_enter Try.func14, Try.ntmps14
  go_wp2_with fail
  refine (zigzag_any _ _ wm).mono ?_
  rintro r w' ⟨rfl, rfl⟩
  go_wp2_with fail
  refine (ruint_any _ _ HL.out).mono ?_
  rintro r w' ⟨rfl, hB⟩
  go_wp2
  go_ret
  exact ⟨rfl, hB⟩

def textL (l : List UInt8) : List UInt8 := P4.venc l.length ++ l

set_option maxHeartbeats 400000 in
theorem text_any (s : ByteArray) (w : World) (hs : s.size ≤ 140737488355328) :
    Calls Try.prog 15 #[.string s] w fun e w' => e = .returned (.string (Bs.mk (textL s.data.toList))) ∧ Below w.heap.size w w' := by
  have HT := Lib.hid (show Bs.mk (P4.venc s.size) ++ s = Bs.mk (textL s.data.toList) by rw [textL, Bs.mk_append, Bs.len_list])
  have hz : (Bs.mk (P4.venc s.size)).size ≤ 10 := by rw [Bs.mk_size]; exact P4.vE_le 9 _
  go_enter Try.func15, Try.ntmps15
  go_wp2_with fail
  refine (uint_any _ _ (by omega)).mono ?_
  rintro r w' ⟨rfl, hB⟩
  go_wp2
  go_ret
  exact ⟨Bs.ret_str HT.out, hB⟩

set_option maxHeartbeats 400000 in
theorem rtext_any (s : ByteArray) (w : World) (hs : s.size ≤ 140737488355328) :
    Calls Try.prog 16 #[.string s] w fun e w' => e = .returned (.string (Bs.mk (textL s.data.toList))) ∧ Below w.heap.size w w' := by
  have HT := Lib.hid (show Bs.mk (P4.venc s.size) ++ s = Bs.mk (textL s.data.toList) by rw [textL, Bs.mk_append, Bs.len_list])
  have hz : (Bs.mk (P4.venc s.size)).size ≤ 10 := by rw [Bs.mk_size]; exact P4.vE_le 9 _
  go_enter Try.func16, Try.ntmps16
  go_wp2_with fail
  refine (ruint_any _ _ (by omega)).mono ?_
  rintro r w' ⟨rfl, hB⟩
  go_wp2
  go_ret
  exact ⟨Bs.ret_str HT.out, hB⟩

/-- What the closure of Text finds in the bytes that are left: their length, an error, and the text. -/
def txF (s : ByteArray) (most : Int) : Nat × Nat × ByteArray :=
  if (P4.vdec s.data.toList).2.2 = 0 then
    (if most < 0 ∨ most < ((P4.vdec s.data.toList).1 : Int) then (0, 3, ⟨#[]⟩)
     else if s.size - (P4.vdec s.data.toList).2.1 < (P4.vdec s.data.toList).1 then (0, 1, ⟨#[]⟩)
     else ((P4.vdec s.data.toList).2.1 + (P4.vdec s.data.toList).1, 0, s.extract (P4.vdec s.data.toList).2.1 ((P4.vdec s.data.toList).2.1 + (P4.vdec s.data.toList).1)))
  else (0, (P4.vdec s.data.toList).2.2, ⟨#[]⟩)

def TxPost (s : ByteArray) (most : Int) (g : Nat) (w : World) (r : Ending) (w' : World) : Prop :=
  r = .returned (.tuple #[.int .i64 ((txF s most).1 : Int), .int .i64 ((txF s most).2.1 : Int)]) ∧ w' = (if (txF s most).2.1 = 0 then w.setCell ⟨g, 0, none⟩ (.string (txF s most).2.2) else w)

set_option maxRecDepth 100000 in
set_option maxHeartbeats 800000 in
theorem tx1 (s : ByteArray) (b g : Nat) (most : Int) (w : World) (hs : s.size ≤ 140737488355328) (hm1 : -9223372036854775808 ≤ most) (hm2 : most ≤ 9223372036854775807)
    (hb : w.cell? ⟨b, 0, none⟩ = some (.int .i64 most)) (hg : w.cell? ⟨g, 0, none⟩ = some (.string ⟨#[]⟩)) (hf : w.frozen? ⟨g, 0, none⟩ = false) :
    Calls Try.prog 36 #[.string s, .pointer (some ⟨b, 0, none⟩), .pointer (some ⟨g, 0, none⟩)] w (TxPost s most g w) := by
  obtain ⟨n, k, er, hv⟩ : ∃ n k er, P4.vdec s.data.toList = (n, k, er) := ⟨_, _, _, rfl⟩
  have HV := Lib.hid hv
  by_cases her : er = 0
  · subst her
    have hn := (P4.vdec_ok hv).1
    have hk := (P4.vdec_ok hv).2.2.1
    rw [Bs.len_list] at hk
    have HN := Lib.hid hn
    clear hv hn
    by_cases hneg : most < 0
    · have HT := Lib.hid (show txF s most = (0, 3, ⟨#[]⟩) by unfold txF; rw [HV.out, if_pos rfl, if_pos (.inl hneg)])
      go_enter Try.func36, Try.ntmps36
      go_wp2_with fail
      refine (varint_any _ _ hs).mono ?_
      rintro r w' ⟨rfl, rfl⟩
      rw [HV.out]
      unfold tri
      go_wp2
      go_ret2
      exact ⟨by rw [HT.out]; rfl, by rw [HT.out]; rfl⟩
    by_cases hbig : most < (n : Int)
    · have HT := Lib.hid (show txF s most = (0, 3, ⟨#[]⟩) by unfold txF; rw [HV.out, if_pos rfl, if_pos (.inr hbig)])
      have hmw : IntKind.u64.wrap most = most := by rw [IntKind.wrap_u64]; omega
      go_enter Try.func36, Try.ntmps36
      go_wp2_with fail
      refine (varint_any _ _ hs).mono ?_
      rintro r w' ⟨rfl, rfl⟩
      rw [HV.out]
      unfold tri
      go_wp2
      go_ret2
      exact ⟨by rw [HT.out]; rfl, by rw [HT.out]; rfl⟩
    by_cases hsh : s.size - k < n
    · have HT := Lib.hid (show txF s most = (0, 1, ⟨#[]⟩) by unfold txF; rw [HV.out, if_pos rfl, if_neg (by simp only; omega), if_pos hsh])
      go_enter Try.func36, Try.ntmps36
      go_wp2_with fail
      refine (varint_any _ _ hs).mono ?_
      rintro r w' ⟨rfl, rfl⟩
      rw [HV.out]
      unfold tri
      go_wp2
      go_ret2
      exact ⟨by rw [HT.out]; rfl, by rw [HT.out]; rfl⟩
    · have HT := Lib.hid (show txF s most = (k + n, 0, s.extract k (k + n)) by unfold txF; rw [HV.out, if_pos rfl, if_neg (by simp only; omega), if_neg hsh])
      have hkn : k + n ≤ s.size := by omega
      go_enter Try.func36, Try.ntmps36
      go_wp2_with fail
      refine (varint_any _ _ hs).mono ?_
      rintro r w' ⟨rfl, rfl⟩
      rw [HV.out]
      unfold tri
      go_wp2
      go_ret2
      exact ⟨by rw [HT.out]; rfl, by rw [HT.out]; rfl⟩
  · have HT := Lib.hid (show txF s most = (0, er, ⟨#[]⟩) by unfold txF; rw [hv, if_neg her])
    have her1 : 1 ≤ er := by omega
    clear her hv
    go_enter Try.func36, Try.ntmps36
    go_wp2_with fail
    refine (varint_any _ _ hs).mono ?_
    rintro r w' ⟨rfl, rfl⟩
    rw [HV.out]
    unfold tri
    go_wp2
    go_ret2
    exact ⟨by rw [HT.out]; rfl, by rw [HT.out, if_neg (by simp only; omega)]⟩

/-- What Text reads: the text, the new position, the new error. -/
def rdT (s : ByteArray) (a e : Nat) (most : Int) : ByteArray × Nat × Nat :=
  if e = 0 then
    (if (txF (s.extract a s.size) most).2.1 = 0 then ((txF (s.extract a s.size) most).2.2, a + (txF (s.extract a s.size) most).1, 0)
     else (⟨#[]⟩, a, (txF (s.extract a s.size) most).2.1))
  else (⟨#[]⟩, a, e)
def TPost (p : Nat) (s : ByteArray) (w : World) (o : ByteArray × Nat × Nat) (r : Ending) (w' : World) : Prop := r = .returned (.string o.1) ∧ But p w w' ∧ Rd w' p s o.2.1 o.2.2
theorem cf36 : ∀ args W, (callFunc 36 args).run Try.prog W = .ok (.enter 36 args) W := fun args W => by kernel_rfl

set_option maxRecDepth 100000 in
set_option maxHeartbeats 800000 in
theorem rText_err (p : Nat) (s : ByteArray) (a e : Nat) (most : Int) (w : World) (h : Rd w p s a e) (he : 1 ≤ e) :
    Calls Try.prog 20 #[.pointer (some ⟨p, 0, none⟩), .int .i64 most] w (TPost p s w (⟨#[]⟩, a, e)) := by
  have hb := h.lt
  have H := Lib.hid h
  clear h
  go_enter Try.func20, Try.ntmps20
  go_wp2_with fail
  refine (step_err p s a e _ _ ((H.out.al _).al _) he).mono ?_
  rintro r w' ⟨rfl, rfl⟩
  have H2 := Lib.hid ((H.out.al (.cells #[.int .i64 most] 3)).al (.cells #[.string ⟨#[]⟩] 9))
  go_wp2
  go_ret
  exact ⟨rfl, But.al (But.al (But.rf p w) _) _, H2.out⟩

/-- What stands behind a step whose closure has two captured blocks. -/
theorem step_facts2 (w : World) (p : Nat) (u v0 v x : Value) (t1 t : TypeId) (j : Nat) (hp : p < w.heap.size) :
    ((((w.alloc (.cells #[u] t1)).alloc (.cells #[v0] t)).drew.setCell ⟨w.heap.size + 1, 0, none⟩ v).setCell ⟨p, j, none⟩ x).cell? ⟨w.heap.size + 1, 0, none⟩ = some v ∧
    But p w ((((w.alloc (.cells #[u] t1)).alloc (.cells #[v0] t)).drew.setCell ⟨w.heap.size + 1, 0, none⟩ v).setCell ⟨p, j, none⟩ x) := by
  constructor
  · have h1 : ((((w.alloc (.cells #[u] t1)).alloc (.cells #[v0] t)).drew.setCell ⟨w.heap.size + 1, 0, none⟩ v).setCell ⟨p, j, none⟩ x).heap[w.heap.size + 1]? = some (.cells #[v] t (0, 0)) := by
      rw [Below.heap_setCell _ _ _ _ (by simp; omega)]
      show (((w.heap.push (.cells #[u] t1)).push (.cells #[v0] t)).modify (w.heap.size + 1) _)[w.heap.size + 1]? = _
      rw [Array.getElem?_modify, if_pos rfl, Bs.push2_at1]
      rfl
    unfold World.cell?
    simp only
    rw [h1]
    simp
  · exact But.set (But.set (But.dr (But.al (But.al (But.rf p w) _) _)) _ _ (.inr (Nat.le_succ _))) _ _ (.inl rfl)
theorem new_cell2 (w : World) (u v : Value) (t1 t : TypeId) : ((w.alloc (.cells #[u] t1)).alloc (.cells #[v] t)).drew.cell? ⟨w.heap.size + 1, 0, none⟩ = some v ∧ ((w.alloc (.cells #[u] t1)).alloc (.cells #[v] t)).drew.frozen? ⟨w.heap.size + 1, 0, none⟩ = false ∧
    ((w.alloc (.cells #[u] t1)).alloc (.cells #[v] t)).drew.cell? ⟨w.heap.size, 0, none⟩ = some u := by
  have h1 : ((w.alloc (.cells #[u] t1)).alloc (.cells #[v] t)).drew.heap[w.heap.size + 1]? = some (.cells #[v] t (0, 0)) := Bs.push2_at1 _ _ _
  have h2 : ((w.alloc (.cells #[u] t1)).alloc (.cells #[v] t)).drew.heap[w.heap.size]? = some (.cells #[u] t1 (0, 0)) := Bs.push2_at _ _ _
  refine ⟨?_, ?_, ?_⟩
  · unfold World.cell?; simp only; rw [h1]; simp
  · unfold World.frozen?; simp only; rw [h1]; simp
  · unfold World.cell?; simp only; rw [h2]; simp

set_option maxRecDepth 100000 in
set_option maxHeartbeats 800000 in
theorem rText_good (p : Nat) (s : ByteArray) (a k : Nat) (t : ByteArray) (most : Int) (w : World) (hm1 : -9223372036854775808 ≤ most) (hm2 : most ≤ 9223372036854775807) (h : Rd w p s a 0) (ha : a ≤ s.size) (hs : s.size ≤ 140737488355328) (hk : k ≤ s.size)
    (hv : txF (s.extract a s.size) most = (k, 0, t)) :
    Calls Try.prog 20 #[.pointer (some ⟨p, 0, none⟩), .int .i64 most] w (TPost p s w (t, a + k, 0)) := by
  have hb := h.lt
  have H := Lib.hid h
  obtain ⟨n1, n2, n3⟩ := new_cell2 w (.int .i64 most) (.string ⟨#[]⟩) 3 9
  have h1 := tx1 (s.extract a s.size) w.heap.size (w.heap.size + 1) most ((w.alloc (.cells #[.int .i64 most] 3)).alloc (.cells #[.string ⟨#[]⟩] 9)).drew (by rw [ByteArray.size_extract]; omega) hm1 hm2 n3 n1 n2
  unfold TxPost at h1
  rw [hv] at h1
  simp only [if_pos] at h1
  rw [← app2] at h1
  have H1 := Lib.hid h1
  clear h h1 hv n1 n2 n3
  go_enter Try.func20, Try.ntmps20
  go_wp2_with fail
  refine (step_ok p s a 36 _ k _ _ ((H.out.al _).al _) ha (by omega) (Rd.setO (Rd.dr ((H.out.al (.cells #[.int .i64 most] 3)).al (.cells #[.string ⟨#[]⟩] 9))) ⟨w.heap.size + 1, 0, none⟩ (.string t) (by simp; omega)) cf36 H1.out).mono ?_
  rintro r w' ⟨rfl, hw'⟩
  obtain ⟨hc, hB⟩ := step_facts2 w p (.int .i64 most) (.string ⟨#[]⟩) (.string t) (.int .i64 ((a + k : Nat) : Int)) 3 9 1 hb
  have HR := Lib.hid ((Rd.setO (Rd.dr ((H.out.al (.cells #[.int .i64 most] 3)).al (.cells #[.string ⟨#[]⟩] 9))) ⟨w.heap.size + 1, 0, none⟩ (.string t) (by simp; omega)).set1 (a + k))
  have HB := Lib.hid hB
  clear hB
  have hc' : w'.cell? ⟨w.heap.size + 1, 0, none⟩ = some (.string t) := by rw [hw']; exact hc
  have HR' : Hid (Rd w' p s (a + k) 0) := by rw [hw']; exact HR.out
  have HB' : Hid (But p w w') := by rw [hw']; exact HB.out
  clear hw' hc HR HB H1
  go_wp2
  go_ret
  exact ⟨rfl, HB'.out, HR'.out⟩

set_option maxRecDepth 100000 in
set_option maxHeartbeats 800000 in
theorem rText_bad (p : Nat) (s : ByteArray) (a er : Nat) (most : Int) (w : World) (hm1 : -9223372036854775808 ≤ most) (hm2 : most ≤ 9223372036854775807) (h : Rd w p s a 0) (ha : a ≤ s.size) (hs : s.size ≤ 140737488355328) (her : 1 ≤ er)
    (k : Nat) (t : ByteArray) (hv : txF (s.extract a s.size) most = (k, er, t)) :
    Calls Try.prog 20 #[.pointer (some ⟨p, 0, none⟩), .int .i64 most] w (TPost p s w (⟨#[]⟩, a, er)) := by
  have hb := h.lt
  have H := Lib.hid h
  obtain ⟨n1, n2, n3⟩ := new_cell2 w (.int .i64 most) (.string ⟨#[]⟩) 3 9
  have h1 := tx1 (s.extract a s.size) w.heap.size (w.heap.size + 1) most ((w.alloc (.cells #[.int .i64 most] 3)).alloc (.cells #[.string ⟨#[]⟩] 9)).drew (by rw [ByteArray.size_extract]; omega) hm1 hm2 n3 n1 n2
  unfold TxPost at h1
  rw [hv, if_neg (show ¬ (k, er, t).2.1 = 0 by simp only; omega)] at h1
  simp only at h1
  rw [← app2] at h1
  have H1 := Lib.hid h1
  clear h h1 hv n1 n2 n3
  go_enter Try.func20, Try.ntmps20
  go_wp2_with fail
  refine (step_bad p s a 36 _ k er _ _ ((H.out.al _).al _) ha her (Rd.dr ((H.out.al (.cells #[.int .i64 most] 3)).al (.cells #[.string ⟨#[]⟩] 9))) cf36 H1.out).mono ?_
  rintro r w' ⟨rfl, hw'⟩
  have hc : (((w.alloc (.cells #[.int .i64 most] 3)).alloc (.cells #[.string ⟨#[]⟩] 9)).drew.setCell ⟨p, 2, none⟩ (.int .i64 (er : Int))).cell? ⟨w.heap.size + 1, 0, none⟩ = some (.string ⟨#[]⟩) := by
    rw [World.cell?_of_block (Below.heap_setCell _ _ _ _ (by simp; omega))]
    exact (new_cell2 w (.int .i64 most) (.string ⟨#[]⟩) 3 9).1
  have HR := Lib.hid ((Rd.dr ((H.out.al (.cells #[.int .i64 most] 3)).al (.cells #[.string ⟨#[]⟩] 9))).set2 er)
  have HB := Lib.hid (But.set (But.dr (But.al (But.al (But.rf p w) (.cells #[.int .i64 most] 3)) (.cells #[.string ⟨#[]⟩] 9))) ⟨p, 2, none⟩ (.int .i64 (er : Int)) (.inl rfl))
  have hc' : w'.cell? ⟨w.heap.size + 1, 0, none⟩ = some (.string ⟨#[]⟩) := by rw [hw']; exact hc
  have HR' : Hid (Rd w' p s a er) := by rw [hw']; exact HR.out
  have HB' : Hid (But p w w') := by rw [hw']; exact HB.out
  clear hw' hc HR HB H1
  go_wp2
  go_ret
  exact ⟨rfl, HB'.out, HR'.out⟩
end Go.Proofs.Ythadbaknlipacaa
