/- Small general lemmas over any program: strings out of owned rows of bytes, what a call leaves below its own blocks. -/
import Derived.WalkKit
import Derived.WalkSpells
import Derived.WalkLawsBesides
import Derived.Handy
import Derived.Lib.Hide
import Derived.Lib.BufferRead
import Derived.Laws.IdiomStrings
namespace Go.Proofs.Ytoocfgpoboneoaa
open Go.RowKit
namespace Bs

theorem bytes_ext {a b : ByteArray} (h : a.data.toList = b.data.toList) : a = b := by
  cases a; cases b; congr 1; exact Array.toList_inj.1 h
theorem ret_int {k : IntKind} {a b : Int} (h : a = b) : Ending.returned (.int k a) = .returned (.int k b) := by rw [h]
theorem val_int {k : IntKind} {a b : Int} (h : a = b) : Value.int k a = .int k b := by rw [h]
theorem ret_str {a b : ByteArray} (h : a = b) : Ending.returned (.string a) = .returned (.string b) := by rw [h]
theorem ret_bool {a b : Bool} (h : a = b) : Ending.returned (.bool a) = .returned (.bool b) := by rw [h]

/-- A string out of a list of bytes. -/
def mk (l : List UInt8) : ByteArray := ⟨l.toArray⟩
theorem mk_list (l : List UInt8) : (mk l).data.toList = l := rfl
theorem mk_size (l : List UInt8) : (mk l).size = l.length := by simp [mk, ByteArray.size]
theorem len_list (s : ByteArray) : s.data.toList.length = s.size := by rw [Array.length_toList]; rfl
theorem mk_of (s : ByteArray) : mk s.data.toList = s := by cases s; rfl
theorem mk_append (l : List UInt8) (s : ByteArray) : mk l ++ s = mk (l ++ s.data.toList) := by
  apply ByteArray.ext; simp [mk]
theorem mk_append' (l m : List UInt8) : mk l ++ mk m = mk (l ++ m) := mk_append l (mk m)
theorem append_eq (s t : ByteArray) : s ++ t = mk (s.data.toList ++ t.data.toList) := by
  rw [← mk_append, mk_of]

def byteV (b : UInt8) : Value := .int .u8 (b.toNat : Int)

/-- The converted string of an owned row of bytes. -/
theorem run_convert_own {P : Program} {w : World} (src dst e : TypeId) (hs : P.underlying src = some (.slice e)) (he : P.underlying e = some (.int .u8)) (hd : P.underlying dst = some .string)
    {B : Nat} {v : Value} {l : List UInt8} {n : Nat} (h : w.ownsRow B e 1 v n (l.map byteV)) : (convert src dst v).run P w = .ok (.string (mk l)) w := by
  have hn : n = l.length := by have := h.1; simp at this; omega
  subst hn
  have hc := @World.ownsRow.cells w B e 1 v _ _ h
  rcases h.2 with ⟨rfl, h0⟩ | ⟨g, cap, cur, rfl, _⟩
  · have : l = [] := by simpa using h0
    subst this
    exact Lib.run_convert_nil_bytes (P := P) w src dst e 0 hs he hd
  · refine run_convert_bytes_back w src dst e _ cap l hs he hd fun j hj => ?_
    exact hc rfl j _ (by simp [byteV, hj])

theorem cell_new1 (w : World) (v : Value) (e : TypeId) : ∀ (j : Nat) (u : Value), [v][j]? = some u → (w.alloc (.cells #[v] e)).cell? ((⟨w.heap.size, 0, none⟩ : Addr).add j) = some u := by
  intro j u hj
  match j, hj with
  | 0, hj => simp at hj; subst hj; simp [Addr.add]

theorem push2_at {α : Type} (a : Array α) (x y : α) : ((a.push x).push y)[a.size]? = some x := by
  rw [Array.getElem?_push, if_neg (by simp), Array.getElem?_push_size]
theorem push2_at1 {α : Type} (a : Array α) (x y : α) : ((a.push x).push y)[a.size + 1]? = some y := by
  rw [Array.getElem?_push, if_pos (by simp)]
theorem tl_inj {a b : ByteArray} (h : a.toList = b.toList) : a = b := by
  rw [ByteArray.toList_eq, ByteArray.toList_eq] at h
  exact bytes_ext h
theorem eq_of_ne_false {a b : ByteArray} (h : (!a.toList == b.toList) = false) : a = b := by
  apply tl_inj; simpa using h
theorem ne_of_ne_true {a b : ByteArray} (h : (!a.toList == b.toList) = true) : a ≠ b := by
  rintro rfl; simp at h
theorem eq_of_eq_true {a b : ByteArray} (h : (a.toList == b.toList) = true) : a = b := by
  apply tl_inj; simpa using h
theorem ne_of_eq_false {a b : ByteArray} (h : (a.toList == b.toList) = false) : a ≠ b := by
  rintro rfl; simp at h
theorem tl_beq (a b : ByteArray) : (a.toList == b.toList) = decide (a = b) := by
  by_cases h : a = b
  · subst h; simp
  · have : (a.toList == b.toList) = false := by
      rw [beq_eq_false_iff_ne]; exact fun e => h (tl_inj e)
    simp [h, this]

end Bs
end Go.Proofs.Ytoocfgpoboneoaa
