/- The walks of collide and of the law ChecksumChains. -/
import Derived.Test.YtoocfgpoboneoaaW6
import Derived.Deep.QuietTactic
import Derived.BigQuiet
import Derived.Deep.RegionHeld3
namespace Go.Proofs.Ytoocfgpoboneoaa
open Go.RowKit
set_option linter.unusedVariables false

def Bad (ss : List ByteArray) (i k : Nat) : Prop := ∃ s t, ss[i]? = some s ∧ ss[k]? = some t ∧ s ≠ t ∧ P5.fnv s.data.toList = P5.fnv t.data.toList
def CollP (ss : List ByteArray) (e : Ending) : Prop := ∃ c : Bool, e = .returned (.bool c) ∧ ((∃ i k, k < i ∧ Bad ss i k) → c = true)

set_option maxHeartbeats 800000 in
theorem collide_any (b off n cap : Nat) (ss : List ByteArray) (w : World) (hn : n = ss.length) (hcap : n ≤ 9223372036854775807) (hc : ∀ (i : Nat) (s : ByteArray), ss[i]? = some s → w.cell? ⟨b, off + i, none⟩ = some (.string s)) (hsz : ∀ (i : Nat) (s : ByteArray), ss[i]? = some s → s.size ≤ maxLen) :
    Calls Try.prog 23 #[.slice (some ⟨b, off, none⟩) n cap] w fun e w' => CollP ss e ∧ Below w.heap.size w w' := by
  have HC := Lib.hid hc
  have HS := Lib.hid hsz
  have HN := Lib.hid hn
  clear hc hsz hn
  go_enter Try.func23, Try.ntmps23
  go_wp2
  go_loopw [3] (fun i wr => ∃ i' : Nat, i' ≤ n ∧ i = .int .i64 i' ∧ (∀ j k, j < i' → k < j → ¬ Bad ss j k) ∧ Below w.heap.size w wr) (fun i _ => n - (intOf i).toNat)
  case atStart => exact ⟨0, Nat.zero_le _, rfl, fun j k h => by omega, Below.refl _ _⟩
  case round =>
    obtain ⟨i, hi, rfl, hbad, hbel⟩ := hrel
    have HB := Lib.hid hbad
    clear hbad
    by_cases hlt : i < n
    · obtain ⟨s, hs⟩ : ∃ s, ss[i]? = some s := ⟨_, List.getElem?_eq_getElem (by rw [← HN.out]; exact hlt)⟩
      have hcs := (hbel.cell (World.block_lt_of_cell? w _ (HC.out i s hs))).trans (HC.out i s hs)
      have hss := HS.out i s hs
      have Hs := Lib.hid hs
      have hls := hbel.size
      clear hs
      have hcsw : w.cell? ⟨b, off + i, none⟩ = some (.string s) := HC.out i s Hs.out
      have Hcsw := Lib.hid hcsw
      clear hcsw
      go_wp2
      obtain ⟨wo, hwo⟩ : ∃ wo : World, wo = wr := ⟨_, rfl⟩
      subst hwo
      go_loopw [4] (fun j w2 => ∃ j' : Nat, j' ≤ i ∧ j = .int .i64 j' ∧ (∀ k, k < j' → ¬ Bad ss i k) ∧ Below w.heap.size w w2) (fun j _ => i - (intOf j).toNat)
      case atStart => exact ⟨0, Nat.zero_le _, rfl, fun k h => by omega, hbel⟩
      case round =>
        obtain ⟨j, hj, rfl, hbad2, hbel2⟩ := hrel
        have HB2 := Lib.hid hbad2
        clear hbad2 hcs
        by_cases hlt2 : j < i
        · obtain ⟨t, ht⟩ : ∃ t, ss[j]? = some t := ⟨_, List.getElem?_eq_getElem (by rw [← HN.out]; omega)⟩
          have hcs := (hbel2.cell (World.block_lt_of_cell? w _ Hcsw.out)).trans Hcsw.out
          have hct := (hbel2.cell (World.block_lt_of_cell? w _ (HC.out j t ht))).trans (HC.out j t ht)
          have hst := HS.out j t ht
          have Ht := Lib.hid ht
          clear ht
          have hi0 : (0 : Int) ≤ (i : Int) := by omega
          have hj0 : (0 : Int) ≤ (j : Int) := by omega
          have hi1 : (i : Int) < (n : Int) := by omega
          have hj1 : (j : Int) < (n : Int) := by omega
          by_cases heq : s = t
          · subst heq
            go_wp2
            go_quiet (fail)
            go_wp2
            go_roundw
            case rel =>
              refine ⟨j + 1, by omega, by go_num, fun k hk => ?_, below_drewN hbel2 nq⟩
              rcases Nat.lt_succ_iff_lt_or_eq.1 hk with h | rfl
              · exact HB2.out k h
              · rintro ⟨s', t', h1, h2, h3, _⟩
                rw [Hs.out] at h1; rw [Ht.out] at h2
                exact h3 (Option.some.inj (h1.symm.trans h2))
            case measure => simp [intOf]; omega
          · have hne : (s.toList == t.toList) = false := by rw [Bs.tl_beq]; exact decide_eq_false heq
            go_wp2
            go_region_held3 (fun w' => w'.cell? ⟨b, off + i, none⟩ = some (.string s) ∧ w'.cell? ⟨b, off + j, none⟩ = some (.string t) ∧ Below w.heap.size w w')
              (first | (go_split_ands; refine ⟨?_, ?_, ?_⟩ <;> first | assumption | (simp; assumption) | (rw [hb'.cell (World.block_lt_of_cell? _ _ (by assumption))]; assumption) | exact Bs.dr (by assumption) | exact Bs.sq (by assumption) hb'))
              ((go_at_call 12; refine (hash_any _ _ (by assumption)).mono ?_; rintro e w' ⟨rfl, hb'⟩))
            rename_i hHeld
            obtain ⟨_, _, hbel3⟩ := hHeld
            have hbel3 := Lib.hid hbel3
            clear hb'
            have HE : Hid (∀ c : Bool, (((P5.fnv s.data.toList : Nat) : Int) == ((P5.fnv t.data.toList : Nat) : Int)) = c → (c = true → Bad ss i j) ∧ (c = false → ¬ Bad ss i j)) := by
              rintro c rfl
              refine ⟨fun h => ⟨s, t, Hs.out, Ht.out, heq, by have := eq_of_beq h; omega⟩, fun h => ?_⟩
              rintro ⟨s', t', h1, h2, h3, h4⟩
              rw [Hs.out] at h1; rw [Ht.out] at h2
              obtain rfl := Option.some.inj h1
              obtain rfl := Option.some.inj h2
              rw [h4] at h; simp at h
            go_wp2
            · have hh : (((P5.fnv s.data.toList : Nat) : Int) == ((P5.fnv t.data.toList : Nat) : Int)) = true := by assumption
              have hB := Lib.hid ((HE.out _ hh).1 rfl)
              go_ret
              exact ⟨⟨true, rfl, fun _ => rfl⟩, hbel3.out⟩
            · have hh : (((P5.fnv s.data.toList : Nat) : Int) == ((P5.fnv t.data.toList : Nat) : Int)) = false := by assumption
              have hB := Lib.hid ((HE.out _ hh).2 rfl)
              go_roundw
              case rel =>
                refine ⟨j + 1, by omega, by go_num, fun k hk => ?_, hbel3.out⟩
                rcases Nat.lt_succ_iff_lt_or_eq.1 hk with h | rfl
                · exact HB2.out k h
                · exact hB.out
              case measure => simp [intOf]; omega
        · go_wp2
          go_roundw
          case rel =>
            refine ⟨i + 1, by omega, by go_num, fun j' k h1 h2 => ?_, hbel2⟩
            rcases Nat.lt_succ_iff_lt_or_eq.1 h1 with h | rfl
            · exact HB.out j' k h h2
            · exact HB2.out k (by omega)
          case measure => simp [intOf]; omega
    · go_wp2
      go_ret
      refine ⟨⟨false, rfl, ?_⟩, hbel⟩
      rintro ⟨j, k, hkj, hB⟩
      have hjn : j < i := by
        obtain ⟨s, t, h1, _⟩ := hB
        have := (List.getElem?_eq_some_iff.1 h1).1
        have := HN.out
        omega
      exact absurd hB (HB.out j k hjn hkj)
end Go.Proofs.Ytoocfgpoboneoaa
