/- Small general lemmas over any program: strings out of owned rows of bytes, what a call leaves below its own blocks. -/
import Derived.WalkKit
import Derived.WalkSpells
import Derived.WalkLawsBesides
import Derived.Handy
import Derived.Lib.Hide
import Derived.Lib.BufferRead
import Derived.Laws.IdiomStrings
namespace Go.Proofs.Ythadbaknlipacaa
open Go.RowKit
namespace Bs
theorem bytes_ext {a b : ByteArray} (h : a.data.toList = b.data.toList) : a = b := by
  cases a; cases b; congr 1; exact Array.toList_inj.1 h

theorem ret_int {k : IntKind} {a b : Int} (h : a = b) : Ending.returned (.int k a) = .returned (.int k b) := by rw [h]
theorem val_int {k : IntKind} {a b : Int} (h : a = b) : Value.int k a = .int k b := by rw [h]
theorem ret_str {a b : ByteArray} (h : a = b) : Ending.returned (.string a) = .returned (.string b) := by rw [h]
theorem ret_bool {a b : Bool} (h : a = b) : Ending.returned (.bool a) = .returned (.bool b) := by rw [h]

/-- A string out of a list of bytes. -/
def mk (l : List UInt8) : ByteArray := ⟨l.toArray⟩
theorem mk_list (l : List UInt8) : (mk l).data.toList = l := rfl
theorem mk_size (l : List UInt8) : (mk l).size = l.length := by simp [mk, ByteArray.size]
theorem len_list (s : ByteArray) : s.data.toList.length = s.size := by rw [Array.length_toList]; rfl
theorem mk_of (s : ByteArray) : mk s.data.toList = s := by cases s; rfl
theorem mk_append (l : List UInt8) (s : ByteArray) : mk l ++ s = mk (l ++ s.data.toList) := by
  apply ByteArray.ext; simp [mk]
theorem mk_append' (l m : List UInt8) : mk l ++ mk m = mk (l ++ m) := mk_append l (mk m)
theorem append_eq (s t : ByteArray) : s ++ t = mk (s.data.toList ++ t.data.toList) := by
  rw [← mk_append, mk_of]

def byteV (b : UInt8) : Value := .int .u8 (b.toNat : Int)

/-- The converted string of an owned row of bytes. -/
theorem run_convert_own {P : Program} {w : World} (src dst e : TypeId) (hs : P.underlying src = some (.slice e)) (he : P.underlying e = some (.int .u8)) (hd : P.underlying dst = some .string)
    {B : Nat} {v : Value} {l : List UInt8} {n : Nat} (h : w.ownsRow B e 1 v n (l.map byteV)) : (convert src dst v).run P w = .ok (.string (mk l)) w := by
  have hn : n = l.length := by have := h.1; simp at this; omega
  subst hn
  have hc := @World.ownsRow.cells w B e 1 v _ _ h
  rcases h.2 with ⟨rfl, h0⟩ | ⟨g, cap, cur, rfl, _⟩
  · have : l = [] := by simpa using h0
    subst this
    exact Lib.run_convert_nil_bytes (P := P) w src dst e 0 hs he hd
  · refine run_convert_bytes_back w src dst e _ cap l hs he hd fun j hj => ?_
    exact hc rfl j _ (by simp [byteV, hj])

theorem cell_new1 (w : World) (v : Value) (e : TypeId) : ∀ (j : Nat) (u : Value), [v][j]? = some u → (w.alloc (.cells #[v] e)).cell? ((⟨w.heap.size, 0, none⟩ : Addr).add j) = some u := by
  intro j u hj
  match j, hj with
  | 0, hj => simp at hj; subst hj; simp [Addr.add]

theorem push2_at {α : Type} (a : Array α) (x y : α) : ((a.push x).push y)[a.size]? = some x := by
  rw [Array.getElem?_push, if_neg (by simp), Array.getElem?_push_size]
theorem push2_at1 {α : Type} (a : Array α) (x y : α) : ((a.push x).push y)[a.size + 1]? = some y := by
  rw [Array.getElem?_push, if_pos (by simp)]
theorem sq {w a b : World} (h : Below w.heap.size w a) (k : Below a.heap.size a b) : Below w.heap.size w b := h.trans (k.mono h.size)
theorem al {w a : World} (h : Below w.heap.size w a) (o : Obj) : Below w.heap.size w (a.alloc o) := h.alloc h.size o
theorem dr {w a : World} (h : Below w.heap.size w a) : Below w.heap.size w a.drew := h.drew
theorem rf (w : World) : Below w.heap.size w w := Below.refl _ _
theorem cell_al {w : World} {p : Addr} {v : Value} (h : w.cell? p = some v) (o : Obj) : (w.alloc o).cell? p = some v :=
  (World.cell?_of_block (Below.heap_alloc w o _ (World.block_lt_of_cell? w _ h))).trans h
theorem own_below {w w' : World} {B e size n : Nat} {v : Value} {xs : List Value} (h : w.ownsRow B e size v n xs) (hb : Below w.heap.size w w') : w'.ownsRow B e size v n xs :=
  h.kept (row := none) ⟨hb.os, hb.tape, hb.output, hb.size, fun k hk _ => hb.block k hk⟩ (by cases v.ownBlock <;> simp)
theorem cell_new2 (w : World) (v u : Value) (e : TypeId) : ∀ (j : Nat) (x : Value), [v, u][j]? = some x → (w.alloc (.cells #[v, u] e)).cell? ((⟨w.heap.size, 0, none⟩ : Addr).add j) = some x := by
  intro j x hj
  match j, hj with
  | 0, hj => simp at hj; subst hj; simp [Addr.add]
  | 1, hj => simp at hj; subst hj; simp [Addr.add]
theorem min3_ex (x y z : Nat) : ∃ n : Nat, n ≤ x ∧ n ≤ y ∧ n ≤ z ∧ (if (z : Int) < (if (y : Int) < (x : Int) then (y : Int) else (x : Int)) then (z : Int) else (if (y : Int) < (x : Int) then (y : Int) else (x : Int))) = (n : Int) := by
  by_cases h1 : (y : Int) < (x : Int)
  · rw [if_pos h1]
    by_cases h2 : (z : Int) < (y : Int)
    · rw [if_pos h2]; exact ⟨z, by omega, by omega, by omega, rfl⟩
    · rw [if_neg h2]; exact ⟨y, by omega, by omega, by omega, rfl⟩
  · rw [if_neg h1]
    by_cases h2 : (z : Int) < (x : Int)
    · rw [if_pos h2]; exact ⟨z, by omega, by omega, by omega, rfl⟩
    · rw [if_neg h2]; exact ⟨x, by omega, by omega, by omega, rfl⟩
/-- An append to an owned row, as one step of a region that draws its order. -/
theorem step_append_own {P : Program} {ops : Array Oper} {o : Oper} {a : Act} {w : World} {K : Act → World → Prop} {Q : Exit → Act → World → Prop} {E : Prop} (hgd : o.guard = none) (s x : Operand) (t : TypeId)
    (ho : o.op = .call { callee := .builtin .append, args := #[s, x], argTypes := #[t, t] })
    (base : Nat) (e : TypeId) (i : TypeInfo) (z : Value) (size bytes : Nat) (ht : P.underlying t = some (.slice e)) (hi : P.info? e = some i) (hz : i.zero = some z)
    (hsize : i.size = size) (hby : i.bytes = bytes) (hzs : z.cells.size = size) (hsz : 0 < size)
    (v : Value) (n : Nat) (xs : List Value) (hs : a.eval s = v) (hown : w.ownsRow base e size v n xs)
    (ad : Addr) (m c : Nat) (news : List Value) (hx : a.eval x = .slice (some ad) m c) (hl : news.length = m * size) (hnews : ∀ j u, news[j]? = some u → w.cell? (ad.add j) = some u) (h1 : ∀ u ∈ news, u.oneCell' = true)
    (h63 : n + m ≤ maxLen) (hbytes : (n + m) * bytes ≤ 140737488355328) (hbase : base ≤ w.heap.size)
    (h : ∀ v' w', w'.ownsRow base e size v' (n + m) (xs ++ news) → w.grownBy w' v.ownBlock → (v' = .slice none 0 0 ↔ v = .slice none 0 0 ∧ m = 0) → K (a.put o.dst v') w') :
    if Region.wanted o (yielded ops a.tmps) = true then Oper.wp P o a w K Q else E := by
  rw [if_pos (by simp [Region.wanted, hgd])]
  exact wp_append_own w s x t ho base e i z size bytes ht hi hz hsize hby hzs hsz v n xs hs hown ad m c news hx hl hnews h1 h63 hbytes hbase h
/-- Block g holds the row l, and none of its cells is frozen. -/
def Row (w : World) (g : Nat) (l : List Value) : Prop := ∃ C e fz, w.heap[g]? = some (.cells C e fz) ∧ ∀ j, j < l.length → C[j]? = l[j]? ∧ ¬ (fz.1 ≤ j ∧ j < fz.2)
theorem Row.cell {w : World} {g : Nat} {l : List Value} (h : Row w g l) {j : Nat} {v : Value} (hv : l[j]? = some v) : w.cell? ⟨g, j, none⟩ = some v := by
  obtain ⟨C, e, fz, hh, hc⟩ := h
  have hj : j < l.length := (List.getElem?_eq_some_iff.1 hv).1
  simp [World.cell?, hh, (hc j hj).1, hv]
theorem Row.free {w : World} {g : Nat} {l : List Value} (h : Row w g l) {j : Nat} (hj : j < l.length) : w.frozen? ⟨g, j, none⟩ = false := by
  obtain ⟨C, e, fz, hh, hc⟩ := h
  have := (hc j hj).2
  obtain ⟨lo, hi⟩ := fz
  simp only [World.frozen?, hh, Bool.and_eq_false_iff, decide_eq_false_iff_not]
  simp only at this
  omega
theorem Row.lt {w : World} {g : Nat} {l : List Value} (h : Row w g l) : g < w.heap.size := by
  obtain ⟨C, e, fz, hh, hc⟩ := h
  exact (Array.getElem?_eq_some_iff.1 hh).1
theorem Row.of_block {w w' : World} {g : Nat} {l : List Value} (h : Row w g l) (hb : w'.heap[g]? = w.heap[g]?) : Row w' g l := by
  obtain ⟨C, e, fz, hh, hc⟩ := h
  exact ⟨C, e, fz, hb.trans hh, hc⟩
theorem Row.al {w : World} {g : Nat} {l : List Value} (h : Row w g l) (o : Obj) : Row (w.alloc o) g l := h.of_block (Below.heap_alloc w o g h.lt)
theorem Row.dr {w : World} {g : Nat} {l : List Value} (h : Row w g l) : Row w.drew g l := h
theorem Row.set {w : World} {g : Nat} {l : List Value} (h : Row w g l) (j : Nat) (v : Value) : Row (w.setCell ⟨g, j, none⟩ v) g (l.set j v) := by
  obtain ⟨C, e, fz, hh, hc⟩ := h
  refine ⟨C.setIfInBounds j v, e, fz, ?_, ?_⟩
  · simp [World.setCell, Array.getElem?_modify, hh]
  · intro i hi
    rw [List.length_set] at hi
    refine ⟨?_, (hc i hi).2⟩
    have hcs : i < C.size := by
      have := (hc i hi).1
      rw [List.getElem?_eq_getElem hi] at this
      exact (Array.getElem?_eq_some_iff.1 this).1
    rw [Array.getElem?_setIfInBounds, List.getElem?_set]
    by_cases hji : j = i
    · subst hji; simp [hcs, hi]
    · simp [hji, (hc i hi).1]
theorem Row.other {w : World} {g : Nat} {l : List Value} (h : Row w g l) (a : Addr) (v : Value) (hne : g ≠ a.block) : Row (w.setCell a v) g l := h.of_block (Below.heap_setCell w a v g hne)
theorem Row.below {w w' : World} {g B : Nat} {l : List Value} (h : Row w g l) (hb : Below B w w') (hg : g < B) : Row w' g l := h.of_block (hb.block g hg)
/-- The bytes of a string, as a new block holds them. -/
theorem Row.bytes {w : World} {g : Nat} (s : ByteArray) (cap : Nat) (e : TypeId) (m : Nat) (hm : s.size ≤ m) (h : w.heap[g]? = some (.cells (bytesRow s cap) e (m, m + 1))) : Row w g (s.data.toList.map byteV) := by
  refine ⟨_, _, _, h, fun j hj => ?_⟩
  rw [List.length_map, len_list] at hj
  constructor
  · unfold bytesRow
    rw [Array.getElem?_append_left (by rw [Array.size_map]; exact hj), Array.getElem?_map, List.getElem?_map, Array.getElem?_toList]
    rfl
  · simp only; omega
/-- Behind '[]byte(s)'. -/
theorem Row.new (s : ByteArray) (w : World) (cap : Nat) (e : TypeId) : Row (w.alloc (.cells (bytesRow s cap) e ((bytesRow s cap).size, (bytesRow s cap).size + 1))).drew w.heap.size (s.data.toList.map byteV) := by
  refine Row.bytes s cap e (bytesRow s cap).size (by unfold bytesRow; rw [Array.size_append, Array.size_map]; exact Nat.le_add_right _ _) ?_
  show (w.heap.push _)[w.heap.size]? = _
  rw [Array.getElem?_push_size]
/-- The string of a row of bytes. -/
theorem run_convert_row {P : Program} {w : World} (src dst e : TypeId) (hs : P.underlying src = some (.slice e)) (he : P.underlying e = some (.int .u8)) (hd : P.underlying dst = some .string)
    {g : Nat} {l : List UInt8} (n cap : Nat) (hn : n = l.length) (h : Row w g (l.map byteV)) : (convert src dst (.slice (some ⟨g, 0, none⟩) n cap)).run P w = .ok (.string (mk l)) w := by
  subst hn
  refine run_convert_bytes_back w src dst e _ cap l hs he hd fun j hj => ?_
  rw [show ((⟨g, 0, none⟩ : Addr).add j) = ⟨g, j, none⟩ from by simp [Addr.add]; exact fun h => h.symm]
  exact h.cell (by simp [hj, byteV])
theorem tl_inj {a b : ByteArray} (h : a.toList = b.toList) : a = b := by
  rw [ByteArray.toList_eq, ByteArray.toList_eq] at h
  exact bytes_ext h
theorem eq_of_ne_false {a b : ByteArray} (h : (!a.toList == b.toList) = false) : a = b := by
  apply tl_inj; simpa using h
theorem ne_of_ne_true {a b : ByteArray} (h : (!a.toList == b.toList) = true) : a ≠ b := by
  rintro rfl; simp at h
theorem eq_of_eq_true {a b : ByteArray} (h : (a.toList == b.toList) = true) : a = b := by
  apply tl_inj; simpa using h
theorem ne_of_eq_false {a b : ByteArray} (h : (a.toList == b.toList) = false) : a ≠ b := by
  rintro rfl; simp at h
theorem tl_beq (a b : ByteArray) : (a.toList == b.toList) = decide (a = b) := by
  by_cases h : a = b
  · subst h; simp
  · have : (a.toList == b.toList) = false := by
      rw [beq_eq_false_iff_ne]; exact fun e => h (tl_inj e)
    simp [h, this]

end Bs
end Go.Proofs.Ythadbaknlipacaa
