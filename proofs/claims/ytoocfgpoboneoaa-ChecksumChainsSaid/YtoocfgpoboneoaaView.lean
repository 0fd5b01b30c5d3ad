/- What a slice of strings among the arguments is: its strings, their cells, their sizes. -/
import Derived.Test.YtoocfgpoboneoaaBase
import Derived.ProofKit
import Derived.SliceStrings
import Derived.SizedLaws
import Derived.Carry
namespace Go.Proofs.Ytoocfgpoboneoaa
open Go.RowKit Go.ChangeShapes
namespace Bs

/-- A slice of the strings ss. -/
def StrsAt (W : World) (v : Value) (ss : List ByteArray) : Prop :=
  ∃ a0 len cap, v = .slice a0 len cap ∧ len = ss.length ∧ len ≤ 9223372036854775807 ∧
    (len = 0 ∨ ∃ b off, a0 = some ⟨b, off, none⟩ ∧ b < W.heap.size ∧ ∀ (i : Nat) (s : ByteArray), ss[i]? = some s → W.cell? ⟨b, off + i, none⟩ = some (.string s) ∧ s.size ≤ 140737488351232)

theorem weightsAll_mem {H : Type} {P : Program} {e : TypeId} {l : List (DataW H)} {d : DataW H} (hd : d ∈ l) {n : Nat} (hn : n ∈ d.weights P e) : n ∈ DataW.weightsAll P e l := by
  induction l with
  | nil => simp at hd
  | cons x l ih =>
    rw [DataW.weightsAll, List.mem_append]
    rcases List.mem_cons.1 hd with rfl | h
    · exact .inl hn
    · exact .inr (ih h)

theorem strs_view {H : Type} {enc : TypeId × Value → H} {P : Program} {W : World} {t e : TypeId} {v : Value} {d : DataW H} {p : List MemPlace} {ts : List TypeId} {ds : List (DataW H)} {j : Nat}
    (ht : P.underlying t = some (.slice e)) (he : P.underlying e = some .string) (hc : P.cellsOf e = 1)
    (hv : ∃ a0 len cap, v = .slice a0 len cap)
    (h : DataW.Trod enc P W 0 (fun _ => true) true t v d p) (hlt : ∀ x ∈ p, x.block < W.heap.size)
    (hsz : (DataW.weightsEach P ts ds).all (· ≤ reachBytes) = true) (hjt : ts[j]? = some t) (hjd : ds[j]? = some d) :
    ∃ ss, StrsAt W v ss := by
  obtain ⟨a0, len, cap, rfl⟩ := hv
  obtain ⟨fuel, hf⟩ := h
  rcases open_strings ht he hc hf with ⟨hcs, hx⟩ | ⟨a, len', cap', ss, hcs, _, hl, hm, hz, hx, hcell, hws⟩
  · simp [Value.cells] at hcs
    obtain ⟨rfl, rfl, rfl⟩ := hcs
    exact ⟨[], none, 0, 0, rfl, rfl, by omega, .inl rfl⟩
  · simp [Value.cells] at hcs
    obtain ⟨rfl, rfl, rfl⟩ := hcs
    simp only [Prod.mk.injEq] at hx
    obtain ⟨rfl, rfl⟩ := hx
    simp only [if_true] at hz
    have hlen : (ss.take len).length = len := by rw [List.length_take, hz]; omega
    refine ⟨ss.take len, some a, len, cap, rfl, hlen.symm, by unfold maxLen at hm; omega, ?_⟩
    by_cases h0 : len = 0
    · exact .inl h0
    · right
      obtain ⟨b, off, spot⟩ := a
      have hspot : spot = none := by simpa [Addr.add] using World.cell?_spot (hcell 0 (by omega))
      subst hspot
      refine ⟨b, off, rfl, hlt (.cell b off) (MemPlace.mem_row.2 ⟨0, by omega, by simp⟩), fun i s hs => ?_⟩
      have hi : i < len := by
        have := (List.getElem?_eq_some_iff.1 hs).1
        omega
      have hs' : ss[i]? = some s := by rw [List.getElem?_take, if_pos hi] at hs; exact hs
      have hgd : ss.getD i ByteArray.empty = s := by rw [List.getD_eq_getElem?_getD, hs']; rfl
      have hcl := hcell i (by omega)
      rw [hgd] at hcl
      have e1 : ((⟨b, off, none⟩ : Addr).add i) = ⟨b, off + i, none⟩ := by unfold Addr.add; split <;> simp_all
      rw [e1] at hcl
      refine ⟨hcl, ?_⟩
      have hmem : s ∈ ss.take len := List.mem_of_getElem? hs
      have := List.all_eq_true.1 hsz s.data.toList.length (DataW.weights_mem_each hjt hjd _ (by
        rw [DataW.weights, ht]
        refine List.mem_cons_of_mem _ (List.mem_append_left _ (weightsAll_mem (d := .lit (.string s.data.toList)) ?_ ?_))
        · unfold strs; exact List.mem_map.2 ⟨s, hmem, rfl⟩
        · simp [DataW.weights]))
      rw [len_list] at this
      have := of_decide_eq_true this
      unfold reachBytes at this
      exact this
end Bs
end Go.Proofs.Ytoocfgpoboneoaa
