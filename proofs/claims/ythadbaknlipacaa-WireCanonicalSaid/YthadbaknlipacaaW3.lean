/- The walks of a reader's methods. -/
import Derived.Test.YthadbaknlipacaaW2
import Derived.Deep.RegionWith
import Derived.Deep.RegionHeld3
namespace Go.Proofs.Ythadbaknlipacaa
open Go.RowKit
set_option linter.unusedVariables false

/-- A reader in block p: the string s, the position a, the error e. -/
def Rd (w : World) (p : Nat) (s : ByteArray) (a e : Nat) : Prop := w.heap[p]? = some (.cells #[.string s, .int .i64 (a : Int), .int .i64 (e : Int)] 67 (0, 0))
theorem Rd.lt {w : World} {p : Nat} {s : ByteArray} {a e : Nat} (h : Rd w p s a e) : p < w.heap.size := (Array.getElem?_eq_some_iff.1 h).1
theorem Rd.c0 {w : World} {p : Nat} {s : ByteArray} {a e : Nat} (h : Rd w p s a e) : w.cell? ⟨p, 0, none⟩ = some (.string s) := by unfold Rd at h; simp [World.cell?, h]
theorem Rd.c1 {w : World} {p : Nat} {s : ByteArray} {a e : Nat} (h : Rd w p s a e) : w.cell? ⟨p, 1, none⟩ = some (.int .i64 (a : Int)) := by unfold Rd at h; simp [World.cell?, h]
theorem Rd.c2 {w : World} {p : Nat} {s : ByteArray} {a e : Nat} (h : Rd w p s a e) : w.cell? ⟨p, 2, none⟩ = some (.int .i64 (e : Int)) := by unfold Rd at h; simp [World.cell?, h]
theorem Rd.fr {w : World} {p : Nat} {s : ByteArray} {a e : Nat} (h : Rd w p s a e) (j : Nat) : w.frozen? ⟨p, j, none⟩ = false := by unfold Rd at h; simp [World.frozen?, h]
theorem Rd.of {w w' : World} {p : Nat} {s : ByteArray} {a e : Nat} (h : Rd w p s a e) (hb : w'.heap[p]? = w.heap[p]?) : Rd w' p s a e := hb.trans h
theorem Rd.set1 {w : World} {p : Nat} {s : ByteArray} {a e : Nat} (h : Rd w p s a e) (a' : Nat) : Rd (w.setCell ⟨p, 1, none⟩ (.int .i64 (a' : Int))) p s a' e := by
  unfold Rd at *; simp [World.setCell, Array.getElem?_modify, h]
theorem Rd.set2 {w : World} {p : Nat} {s : ByteArray} {a e : Nat} (h : Rd w p s a e) (e' : Nat) : Rd (w.setCell ⟨p, 2, none⟩ (.int .i64 (e' : Int))) p s a e' := by
  unfold Rd at *; simp [World.setCell, Array.getElem?_modify, h]

/-- Of what was there, block p alone may have turned. -/
abbrev But (p : Nat) (w w' : World) : Prop := w.grownBy w' (some p)
theorem But.rf (p : Nat) (w : World) : But p w w := ⟨rfl, rfl, rfl, Nat.le_refl _, fun _ _ _ => rfl⟩
theorem But.al {p : Nat} {w a : World} (h : But p w a) (o : Obj) : But p w (a.alloc o) := ⟨h.os, h.tape, h.output, by have := h.size; simp; omega, fun k hk hne => (Below.heap_alloc a o k (Nat.lt_of_lt_of_le hk h.size)).trans (h.block k hk hne)⟩
theorem But.dr {p : Nat} {w a : World} (h : But p w a) : But p w a.drew := ⟨h.os, h.tape, h.output, h.size, h.block⟩
theorem But.drN {p : Nat} {w a : World} (h : But p w a) (n : Nat) : But p w (a.drewN n) := ⟨h.os, h.tape, h.output, h.size, h.block⟩
theorem But.set {p : Nat} {w a : World} (h : But p w a) (b : Addr) (v : Value) (hb : b.block = p ∨ w.heap.size ≤ b.block) : But p w (a.setCell b v) :=
  ⟨h.os, h.tape, h.output, by simpa [World.setCell] using h.size, fun k hk hne => (Below.heap_setCell a b v k (by intro e; rcases hb with hb | hb; exact hne (by rw [e, hb]); omega)).trans (h.block k hk hne)⟩

set_option maxRecDepth 100000 in
set_option maxHeartbeats 800000 in
theorem rUint1 (s : ByteArray) (g n k er : Nat) (x : Int) (w : World) (hs : s.size ≤ 140737488355328) (hv : P4.vdec s.data.toList = (n, k, er)) (hg : w.cell? ⟨g, 0, none⟩ = some (.int .u64 x)) (hf : w.frozen? ⟨g, 0, none⟩ = false) :
    Calls Try.prog 34 #[.string s, .pointer (some ⟨g, 0, none⟩)] w fun e w' => e = .returned (.tuple #[.int .i64 (k : Int), .int .i64 (er : Int)]) ∧ w' = w.setCell ⟨g, 0, none⟩ (.int .u64 (n : Int)) := by
  have HV := Lib.hid hv
  clear hv
  go_enter Try.func34, Try.ntmps34
  go_wp2_with fail
  refine (varint_any _ _ hs).mono ?_
  rintro e w1 ⟨rfl, rfl⟩
  rw [HV.out]
  unfold tri
  go_wp2
  go_ret2
  exact ⟨rfl, rfl⟩

set_option maxRecDepth 100000 in
set_option maxHeartbeats 800000 in
theorem step_err (p : Nat) (s : ByteArray) (a e : Nat) (w : World) (fv : Value) (h : Rd w p s a e) (he : 1 ≤ e) :
    Calls Try.prog 33 #[.pointer (some ⟨p, 0, none⟩), fv] w fun r w' => r = .returned (.tuple #[]) ∧ w' = w := by
  have h2 := h.c2
  have H := Lib.hid h
  clear h
  go_enter Try.func33, Try.ntmps33
  go_wp2_with fail
  refine bodyPost_ret (results_none rfl _ _ _) rfl ⟨rfl, rfl⟩

set_option maxRecDepth 100000 in
set_option maxHeartbeats 800000 in
theorem step_bad (p : Nat) (s : ByteArray) (a F : Nat) (caps : Array Value) (k er : Nat) (w w2 : World) (h : Rd w p s a 0) (ha : a ≤ s.size) (her : 1 ≤ er) (h2 : Rd w2 p s a 0)
    (hcf : ∀ args W, (callFunc F args).run Try.prog W = .ok (.enter F args) W)
    (hf : Calls Try.prog F (#[.string (s.extract a s.size)] ++ caps) w.drew fun r w' => r = .returned (.tuple #[.int .i64 (k : Int), .int .i64 (er : Int)]) ∧ w' = w2) :
    Calls Try.prog 33 #[.pointer (some ⟨p, 0, none⟩), .func (Fn.func F) #[] caps] w fun r w' => r = .returned (.tuple #[]) ∧ w' = w2.setCell ⟨p, 2, none⟩ (.int .i64 (er : Int)) := by
  have c0 := h.c0
  have c1 := h.c1
  have c2 := h.c2
  have d2 := h2.c2
  have f2 := h2.fr 2
  have HF := Lib.hid hf
  clear h h2 hf
  go_enter Try.func33, Try.ntmps33
  go_wp2_with fail
  go_region_with (refine HF.out.mono ?_; rintro r w' ⟨rfl, rfl⟩)
  all_goals go_wp2
  all_goals exact bodyPost_ret (results_none rfl _ _ _) rfl ⟨rfl, rfl⟩

set_option maxRecDepth 100000 in
set_option maxHeartbeats 800000 in
theorem step_ok (p : Nat) (s : ByteArray) (a F : Nat) (caps : Array Value) (k : Nat) (w w2 : World) (h : Rd w p s a 0) (ha : a ≤ s.size) (hk : a + k ≤ 4611686018427387904) (h2 : Rd w2 p s a 0)
    (hcf : ∀ args W, (callFunc F args).run Try.prog W = .ok (.enter F args) W)
    (hf : Calls Try.prog F (#[.string (s.extract a s.size)] ++ caps) w.drew fun r w' => r = .returned (.tuple #[.int .i64 (k : Int), .int .i64 ((0 : Nat) : Int)]) ∧ w' = w2) :
    Calls Try.prog 33 #[.pointer (some ⟨p, 0, none⟩), .func (Fn.func F) #[] caps] w fun r w' => r = .returned (.tuple #[]) ∧ w' = w2.setCell ⟨p, 1, none⟩ (.int .i64 ((a + k : Nat) : Int)) := by
  have c0 := h.c0
  have c1 := h.c1
  have c2 := h.c2
  have d1 := h2.c1
  have f1 := h2.fr 1
  have HF := Lib.hid hf
  clear h h2 hf
  go_enter Try.func33, Try.ntmps33
  go_wp2_with fail
  go_region_with (refine HF.out.mono ?_; rintro r w' ⟨rfl, rfl⟩)
  all_goals go_wp2
  all_goals exact bodyPost_end (results_none rfl _ _ _) rfl ⟨rfl, rfl⟩

/-- What Uint reads at a position: the number, the new position, the new error. -/
def rdU (s : ByteArray) (a e : Nat) : Nat × Nat × Nat :=
  if e = 0 then
    (if (P4.vdec (s.data.toList.drop a)).2.2 = 0 then ((P4.vdec (s.data.toList.drop a)).1, a + (P4.vdec (s.data.toList.drop a)).2.1, 0)
     else (0, a, (P4.vdec (s.data.toList.drop a)).2.2))
  else (0, a, e)
theorem cut_list (s : ByteArray) (a : Nat) : (s.extract a s.size).data.toList = s.data.toList.drop a := by
  rw [ByteArray.data_extract, Array.toList_extract, List.extract_eq_take_drop, List.take_of_length_le]
  rw [List.length_drop, Bs.len_list]
  exact Nat.le_refl _
theorem Rd.al {w : World} {p : Nat} {s : ByteArray} {a e : Nat} (h : Rd w p s a e) (o : Obj) : Rd (w.alloc o) p s a e := h.of (Below.heap_alloc w o p h.lt)
theorem Rd.setO {w : World} {p : Nat} {s : ByteArray} {a e : Nat} (h : Rd w p s a e) (b : Addr) (v : Value) (hb : p ≠ b.block) : Rd (w.setCell b v) p s a e := h.of (Below.heap_setCell w b v p hb)
theorem Rd.dr {w : World} {p : Nat} {s : ByteArray} {a e : Nat} (h : Rd w p s a e) : Rd w.drew p s a e := h
theorem cf34 : ∀ args W, (callFunc 34 args).run Try.prog W = .ok (.enter 34 args) W := fun args W => by kernel_rfl

theorem app1 (a b : Value) : (#[a] ++ #[b] : Array Value) = #[a, b] := rfl
theorem app2 (a b c : Value) : (#[a] ++ #[b, c] : Array Value) = #[a, b, c] := rfl
theorem new_cell (w : World) (v : Value) (t : TypeId) : (w.alloc (.cells #[v] t)).drew.cell? ⟨w.heap.size, 0, none⟩ = some v := by
  show (w.alloc (.cells #[v] t)).cell? _ = _
  simp
theorem new_free (w : World) (v : Value) (t : TypeId) : (w.alloc (.cells #[v] t)).drew.frozen? ⟨w.heap.size, 0, none⟩ = false := by
  show (w.alloc (.cells #[v] t)).frozen? _ = _
  simp
/-- What stands behind a step: a new cell was written, then a cell of the reader. -/
theorem step_facts (w : World) (p : Nat) (v0 v x : Value) (t : TypeId) (j : Nat) (hp : p < w.heap.size) :
    (((w.alloc (.cells #[v0] t)).drew.setCell ⟨w.heap.size, 0, none⟩ v).setCell ⟨p, j, none⟩ x).cell? ⟨w.heap.size, 0, none⟩ = some v ∧
    But p w (((w.alloc (.cells #[v0] t)).drew.setCell ⟨w.heap.size, 0, none⟩ v).setCell ⟨p, j, none⟩ x) := by
  constructor
  · have h1 : (((w.alloc (.cells #[v0] t)).drew.setCell ⟨w.heap.size, 0, none⟩ v).setCell ⟨p, j, none⟩ x).heap[w.heap.size]? = some (.cells #[v] t (0, 0)) := by
      rw [Below.heap_setCell _ _ _ _ (by simp; omega)]
      show ((w.heap.push (.cells #[v0] t)).modify w.heap.size _)[w.heap.size]? = _
      rw [Array.getElem?_modify, if_pos rfl, Array.getElem?_push_size]
      rfl
    unfold World.cell?
    simp only
    rw [h1]
    simp
  · exact But.set (But.set (But.dr (But.al (But.rf p w) _)) _ _ (.inr (Nat.le_refl _))) _ _ (.inl rfl)

def UPost (p : Nat) (s : ByteArray) (w : World) (o : Nat × Nat × Nat) (r : Ending) (w' : World) : Prop := r = .returned (.int .u64 (o.1 : Int)) ∧ But p w w' ∧ Rd w' p s o.2.1 o.2.2

set_option maxRecDepth 100000 in
set_option maxHeartbeats 800000 in
theorem rUint_err (p : Nat) (s : ByteArray) (a e : Nat) (w : World) (h : Rd w p s a e) (he : 1 ≤ e) :
    Calls Try.prog 18 #[.pointer (some ⟨p, 0, none⟩)] w (UPost p s w (0, a, e)) := by
  have hb := h.lt
  have H := Lib.hid h
  clear h
  go_enter Try.func18, Try.ntmps18
  go_wp2_with fail
  refine (step_err p s a e _ _ (H.out.al _) he).mono ?_
  rintro r w' ⟨rfl, rfl⟩
  have H2 := Lib.hid (H.out.al (.cells #[.int .u64 0] 22))
  go_wp2
  go_ret
  exact ⟨rfl, But.al (But.rf p w) _, H2.out⟩

set_option maxRecDepth 100000 in
set_option maxHeartbeats 800000 in
theorem rUint_good (p : Nat) (s : ByteArray) (a n k : Nat) (w : World) (h : Rd w p s a 0) (ha : a ≤ s.size) (hs : s.size ≤ 140737488355328) (hk : k ≤ s.size) (hv : P4.vdec (s.data.toList.drop a) = (n, k, 0)) :
    Calls Try.prog 18 #[.pointer (some ⟨p, 0, none⟩)] w (UPost p s w (n, a + k, 0)) := by
  have hb := h.lt
  have H := Lib.hid h
  have h1 := rUint1 (s.extract a s.size) w.heap.size n k 0 0 (w.alloc (.cells #[.int .u64 0] 22)).drew (by rw [ByteArray.size_extract]; omega) (by rw [cut_list, hv]) (new_cell w _ _) (new_free w _ _)
  rw [← app1] at h1
  have H1 := Lib.hid h1
  clear h h1 hv
  go_enter Try.func18, Try.ntmps18
  go_wp2_with fail
  refine (step_ok p s a 34 _ k _ _ (H.out.al _) ha (by omega) (Rd.setO (Rd.dr (H.out.al (.cells #[.int .u64 0] 22))) ⟨w.heap.size, 0, none⟩ (.int .u64 (n : Int)) (by simp; omega)) cf34 H1.out).mono ?_
  rintro r w' ⟨rfl, hw'⟩
  obtain ⟨hc, hB⟩ := step_facts w p (.int .u64 0) (.int .u64 (n : Int)) (.int .i64 ((a + k : Nat) : Int)) 22 1 hb
  have HR := Lib.hid (((Rd.dr (H.out.al (.cells #[.int .u64 0] 22))).setO ⟨w.heap.size, 0, none⟩ (.int .u64 (n : Int)) (by simp; omega)).set1 (a + k))
  have HB := Lib.hid hB
  clear hB
  have hc' : w'.cell? ⟨w.heap.size, 0, none⟩ = some (.int .u64 (n : Int)) := by rw [hw']; exact hc
  have HR' : Hid (Rd w' p s (a + k) 0) := by rw [hw']; exact HR.out
  have HB' : Hid (But p w w') := by rw [hw']; exact HB.out
  clear hw' hc HR HB H1
  go_wp2
  go_ret
  exact ⟨rfl, HB'.out, HR'.out⟩

set_option maxRecDepth 100000 in
set_option maxHeartbeats 800000 in
theorem rUint_bad (p : Nat) (s : ByteArray) (a er : Nat) (w : World) (h : Rd w p s a 0) (ha : a ≤ s.size) (hs : s.size ≤ 140737488355328) (her : 1 ≤ er) (hv : P4.vdec (s.data.toList.drop a) = (0, 0, er)) :
    Calls Try.prog 18 #[.pointer (some ⟨p, 0, none⟩)] w (UPost p s w (0, a, er)) := by
  have hb := h.lt
  have H := Lib.hid h
  have h1 := rUint1 (s.extract a s.size) w.heap.size 0 0 er 0 (w.alloc (.cells #[.int .u64 0] 22)).drew (by rw [ByteArray.size_extract]; omega) (by rw [cut_list, hv]) (new_cell w _ _) (new_free w _ _)
  rw [← app1] at h1
  have H1 := Lib.hid h1
  clear h h1 hv
  go_enter Try.func18, Try.ntmps18
  go_wp2_with fail
  refine (step_bad p s a 34 _ 0 er _ _ (H.out.al _) ha her (Rd.setO (Rd.dr (H.out.al (.cells #[.int .u64 0] 22))) ⟨w.heap.size, 0, none⟩ (.int .u64 ((0 : Nat) : Int)) (by simp; omega)) cf34 H1.out).mono ?_
  rintro r w' ⟨rfl, hw'⟩
  obtain ⟨hc, hB⟩ := step_facts w p (.int .u64 0) (.int .u64 ((0 : Nat) : Int)) (.int .i64 (er : Int)) 22 2 hb
  have HR := Lib.hid (((Rd.dr (H.out.al (.cells #[.int .u64 0] 22))).setO ⟨w.heap.size, 0, none⟩ (.int .u64 ((0 : Nat) : Int)) (by simp; omega)).set2 er)
  have HB := Lib.hid hB
  clear hB
  have hc' : w'.cell? ⟨w.heap.size, 0, none⟩ = some (.int .u64 ((0 : Nat) : Int)) := by rw [hw']; exact hc
  have HR' : Hid (Rd w' p s a er) := by rw [hw']; exact HR.out
  have HB' : Hid (But p w w') := by rw [hw']; exact HB.out
  clear hw' hc HR HB H1
  go_wp2
  go_ret
  exact ⟨rfl, HB'.out, HR'.out⟩

theorem rUint_any (p : Nat) (s : ByteArray) (a e : Nat) (w : World) (h : Rd w p s a e) (ha : a ≤ s.size) (hs : s.size ≤ 140737488355328) :
    Calls Try.prog 18 #[.pointer (some ⟨p, 0, none⟩)] w (UPost p s w (rdU s a e)) := by
  unfold rdU
  by_cases he : e = 0
  · subst he
    rw [if_pos rfl]
    rcases P4.vdec_err (s.data.toList.drop a) with hv | hv | hv
    · rw [if_pos hv]
      have hv' : P4.vdec (s.data.toList.drop a) = ((P4.vdec (s.data.toList.drop a)).1, (P4.vdec (s.data.toList.drop a)).2.1, 0) := by rw [← hv]
      have := (P4.vdec_ok hv').2.2.1
      rw [List.length_drop, Bs.len_list] at this
      exact rUint_good p s a _ _ w h ha hs (by omega) hv'
    · rw [hv, if_neg (by decide)]
      exact rUint_bad p s a 1 w h ha hs (by decide) hv
    · rw [hv, if_neg (by decide)]
      exact rUint_bad p s a 2 w h ha hs (by decide) hv
  · rw [if_neg he]
    exact rUint_err p s a e w h (by omega)
end Go.Proofs.Ythadbaknlipacaa
