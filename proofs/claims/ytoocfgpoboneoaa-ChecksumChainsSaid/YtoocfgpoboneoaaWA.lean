/- The walk of the law ChecksumChains. -/
import Derived.Test.YtoocfgpoboneoaaW9
import Derived.Test.YtoocfgpoboneoaaView
namespace Go.Proofs.Ytoocfgpoboneoaa
open Go.RowKit
set_option linter.unusedVariables false

theorem Try.info9 : (Try.prog.info? 9).map (fun i => (i.zero, i.size, i.bytes)) = some (some (.string ⟨#[]⟩), 1, 16) := by kernel_rfl

def dl (ss : List ByteArray) : List (List UInt8) := ss.map fun s => s.data.toList
def strV (l : List UInt8) : Value := .string (Bs.mk l)
theorem dl_take_snoc (ss : List ByteArray) (i : Nat) (s : ByteArray) (h : ss[i]? = some s) : dl (ss.take (i + 1)) = dl (ss.take i) ++ [s.data.toList] := by
  obtain ⟨hi, e⟩ := List.getElem?_eq_some_iff.1 h
  unfold dl
  rw [List.take_succ_eq_append_getElem hi, List.map_append, e]
  rfl
theorem dl_inj {l m : List ByteArray} (h : dl l = dl m) : l = m := by
  unfold dl at h
  exact (List.map_inj_right (f := fun s : ByteArray => s.data.toList) (fun a b e => Bs.bytes_ext e)).1 h

theorem take_same (ss tt : List ByteArray) (k : Nat) (s t : ByteArray) (h1 : ss[k]? = some s) (h2 : tt[k]? = some t) : decide (ss.take (k + 1) = tt.take (k + 1)) = (decide (ss.take k = tt.take k) && decide (s = t)) := by
  obtain ⟨i1, e1⟩ := List.getElem?_eq_some_iff.1 h1
  obtain ⟨i2, e2⟩ := List.getElem?_eq_some_iff.1 h2
  rw [List.take_succ_eq_append_getElem i1, List.take_succ_eq_append_getElem i2, e1, e2, ← Bool.decide_and]
  congr 1
  apply propext
  constructor
  · intro h
    have := List.append_inj h (by rw [List.length_take, List.length_take]; omega)
    exact ⟨this.1, by simpa using this.2⟩
  · rintro ⟨a, b⟩; rw [a, b]
theorem dl_size (ss : List ByteArray) (k : Nat) (h : ∀ (i : Nat) (s : ByteArray), ss[i]? = some s → s.size ≤ 140737488351232) : ∀ r ∈ dl (ss.take k), r.length ≤ 140737488351232 := by
  intro r hr
  unfold dl at hr
  obtain ⟨s, hs, rfl⟩ := List.mem_map.1 hr
  obtain ⟨i, hi⟩ := List.mem_iff_getElem?.1 (List.mem_of_mem_take hs)
  rw [Bs.len_list]
  exact h i s hi

set_option maxRecDepth 100000 in
set_option maxHeartbeats 1600000 in
theorem chains_core (x b1 o1 n1 c1 b2 o2 n2 c2 : Nat) (ss tt : List ByteArray) (w : World) (hx : x < 18446744073709551616) (hn1 : n1 = ss.length) (hn2 : n2 = tt.length)
    (hm1 : n1 ≤ 9223372036854775807) (hm2 : n2 ≤ 9223372036854775807)
    (hc1 : ∀ (i : Nat) (s : ByteArray), ss[i]? = some s → w.cell? ⟨b1, o1 + i, none⟩ = some (.string s) ∧ s.size ≤ 140737488351232)
    (hc2 : ∀ (i : Nat) (s : ByteArray), tt[i]? = some s → w.cell? ⟨b2, o2 + i, none⟩ = some (.string s) ∧ s.size ≤ 140737488351232) (hb1 : b1 < w.heap.size) (hb2 : b2 < w.heap.size) :
    Calls Try.prog 8 #[.int .u64 x, .slice (some ⟨b1, o1, none⟩) n1 c1, .slice (some ⟨b2, o2, none⟩) n2 c2] w fun e w' => e = .returned (.bool true) ∧ Below w.heap.size w w' := by
  obtain ⟨i0, hi, hz0, hz1, hz2⟩ := info_parts Try.info9
  have HX := Lib.hid hx
  have HC1 := Lib.hid hc1
  have HC2 := Lib.hid hc2
  have HN1 := Lib.hid hn1
  have HN2 := Lib.hid hn2
  clear hx hc1 hc2 hn1 hn2
  obtain ⟨n, hna, hnb, hnc, hn⟩ := Bs.min3_ex n1 n2 40
  have hmin : ∀ ts t W, (Builtin.min_ ts t #[.int .i64 (n1 : Int), .int .i64 (n2 : Int), .int .i64 40]).run Try.prog W = .ok (.int .i64 (n : Int)) W := by
    intro ts t W
    have hn' : (if (40 : Int) < (if (n2 : Int) < (n1 : Int) then (n2 : Int) else (n1 : Int)) then (40 : Int) else (if (n2 : Int) < (n1 : Int) then (n2 : Int) else (n1 : Int))) = (n : Int) := hn
    rw [run_min_int3, hn']
  clear hn
  go_enter Try.func8, Try.ntmps8
  go_wp2
  clear hmin
  go_loopw [8, 9, 10, 11, 12] (fun X Y sm v i wr => ∃ k : Nat, k ≤ n ∧ i = .int .i64 k ∧ X = .int .u64 (P5.chainF x (dl (ss.take k)) : Nat) ∧ Y = .int .u64 (P5.chainF x (dl (tt.take k)) : Nat) ∧ sm = .bool (decide (ss.take k = tt.take k)) ∧
      wr.ownsRow w.heap.size 9 1 v (2 * k) ((P5.hs x x (dl (ss.take k)) (dl (tt.take k))).map strV) ∧ Below w.heap.size w wr) (fun _ _ _ _ i _ => n - (intOf i).toNat)
  case atStart => exact ⟨0, Nat.zero_le _, rfl, rfl, rfl, rfl, World.ownsRow_nil _ _ _ _, Below.refl _ _⟩
  case round =>
    obtain ⟨k, hk, rfl, rfl, rfl, rfl, hown, hbel⟩ := hrel

    by_cases hlt : k < n
    · obtain ⟨s, hs⟩ : ∃ s, ss[k]? = some s := ⟨_, List.getElem?_eq_getElem (by rw [← HN1.out]; omega)⟩
      obtain ⟨t, ht⟩ : ∃ t, tt[k]? = some t := ⟨_, List.getElem?_eq_getElem (by rw [← HN2.out]; omega)⟩
      have hcs := (hbel.cell (by exact hb1)).trans (HC1.out k s hs).1
      have hct := (hbel.cell (by exact hb2)).trans (HC2.out k t ht).1
      have hss := (HC1.out k s hs).2
      have hst := (HC2.out k t ht).2
      have HXs := Lib.hid (show P5.chainF x (dl (ss.take (k + 1))) = P5.chain (P5.chainF x (dl (ss.take k))) s.data.toList by rw [dl_take_snoc ss k s hs, P5.chainF_snoc])
      have HYs := Lib.hid (show P5.chainF x (dl (tt.take (k + 1))) = P5.chain (P5.chainF x (dl (tt.take k))) t.data.toList by rw [dl_take_snoc tt k t ht, P5.chainF_snoc])
      have HHs := Lib.hid (show (P5.hs x x (dl (ss.take (k + 1))) (dl (tt.take (k + 1)))).map strV = (P5.hs x x (dl (ss.take k)) (dl (tt.take k))).map strV ++ [.string (Bs.mk (P5.linkL (P5.chainF x (dl (ss.take k))) s.data.toList)), .string (Bs.mk (P5.linkL (P5.chainF x (dl (tt.take k))) t.data.toList))] by
        rw [dl_take_snoc ss k s hs, dl_take_snoc tt k t ht, P5.hs_snoc _ _ _ _ _ _ (by unfold dl; rw [List.length_map, List.length_map, List.length_take, List.length_take, ← HN1.out, ← HN2.out]; omega), List.map_append]
        rfl)
      have HSM := Lib.hid (take_same ss tt k s t hs ht)
      have hXl := Lib.hid (P5.chainF_lt (dl (ss.take k)) HX.out)
      have hYl := Lib.hid (P5.chainF_lt (dl (tt.take k)) HX.out)
      have hk0 : (0 : Int) ≤ (k : Int) := by omega
      have hk1 : (k : Int) < (n1 : Int) := by omega
      have hk2 : (k : Int) < (n2 : Int) := by omega
      have hne1 : some b1 ≠ u11.ownBlock := by
        intro e
        have := (hown.lt b1 e.symm).1
        omega
      have hne2 : some b2 ≠ u11.ownBlock := by
        intro e
        have := (hown.lt b2 e.symm).1
        omega
      clear hs ht
      generalize P5.chainF x (dl (ss.take k)) = X at *
      generalize P5.chainF x (dl (tt.take k)) = Y at *
      generalize decide (ss.take k = tt.take k) = sm at *
      generalize P5.hs x x (dl (ss.take k)) (dl (tt.take k)) = Hs at *
      have hXl' := hXl.out
      have hYl' := hYl.out
      go_wp2
      go_region_held3 (fun w' => w'.cell? ⟨b1, o1 + k, none⟩ = some (.string s) ∧ w'.cell? ⟨b2, o2 + k, none⟩ = some (.string t) ∧ Below w.heap.size w w')
        (first | ((try go_split_ands); refine ⟨?_, ?_, ?_⟩ <;> first | assumption | exact Bs.al (by assumption) _ | exact Bs.cell_al (by assumption) _ | exact Bs.dr (by assumption) | (simp; assumption) | (rw [hb'.cell (World.block_lt_of_cell? _ _ (by assumption))]; assumption) | exact hgrow.cell (by assumption) hne1 | exact hgrow.cell (by assumption) hne2 | exact Bs.dr (by assumption) | exact Bs.sq (by assumption) hb' | exact Bs.al (by assumption) _))
        (first | (go_at_call 20; refine (link_any _ _ _ (by assumption) (by omega)).mono ?_; rintro e w' ⟨rfl, hb'⟩) | (have hBX : Below w.heap.size w w' := Bs.sq (Bs.sq (Bs.dr hbel) (by assumption)) hb'; have hBW : w.heap.size ≤ w'.heap.size := hBX.size; refine Bs.step_append_own rfl _ _ 40 rfl w.heap.size 9 i0 (.string ⟨#[]⟩) 1 16 Try.underlying40 hi hz0 hz1 hz2 rfl (by decide) _ _ _ rfl ((Bs.own_below (Bs.own_below hown.drew (by assumption)) hb').alloc _) _ 2 2 [.string (Bs.mk (P5.linkL X s.data.toList)), .string (Bs.mk (P5.linkL Y t.data.toList))] rfl rfl (Bs.cell_new2 _ _ _ _) (by intro u hu; simp at hu; rcases hu with rfl | rfl <;> rfl) (by unfold maxLen; omega) (by omega) (by simp; omega) ?_; intro v' w1 hown' hgrow _; have hBG : Below w.heap.size w w1 := (Bs.al hBX _).grown hgrow (by simp; omega) (fun k hk => (hown.lt k hk).1)))
      rename_i hHeld
      obtain ⟨hcs, hct, hbel3⟩ := hHeld
      have HBEL := Lib.hid hbel3
      obtain ⟨q, hq⟩ : ∃ q : Bool, (s.toList == t.toList) = q := ⟨_, rfl⟩
      have Hq := Lib.hid (show q = decide (s = t) by rw [← hq, Bs.tl_beq])
      have HOWN := Lib.hid hown'
      clear hown'
      go_wp2
      have hsz1 : s.size ≤ 140737488351232 := hss
      obtain ⟨p, hp⟩ : ∃ p : Bool, p = (sm && q) := ⟨_, rfl⟩
      have HP := Lib.hid hp
      clear hp
      cases sm
      all_goals
        have HPV := Lib.hid HP.out
        go_quiet (fail)
        have hcs := (show (w1.drewN nq).cell? ⟨b1, o1 + k, none⟩ = some (.string s) from hcs)
        have hct := (show (w1.drewN nq).cell? ⟨b2, o2 + k, none⟩ = some (.string t) from hct)
        have hbel4 := below_drewN HBEL.out nq
        have HOWN4 := Lib.hid (show (w1.drewN nq).ownsRow _ _ _ _ _ _ from HOWN.out)
        clear HOWN HBEL hbel3
        generalize w1.drewN nq = w2 at *
        go_wp2
        go_region_held3 (fun w' => w'.cell? ⟨b1, o1 + k, none⟩ = some (.string s) ∧ w'.cell? ⟨b2, o2 + k, none⟩ = some (.string t) ∧ Below w2.heap.size w2 w')
          (first | ((try go_split_ands); refine ⟨?_, ?_, ?_⟩ <;> first | assumption | exact Bs.dr (by assumption) | exact Bs.dr (Bs.rf _) | (simp; assumption) | (rw [hb'.cell (World.block_lt_of_cell? _ _ (by assumption))]; assumption) | exact Bs.sq (by assumption) hb'))
          (first | (go_at_call 21; refine (chain_any _ _ _ (by assumption) (by omega)).mono ?_; rintro e w' ⟨rfl, hb'⟩))
        rename_i hHeld
        obtain ⟨hcs, hct, hbel5⟩ := hHeld
        have HOWN5 := Lib.hid (Bs.own_below HOWN4.out hbel5)
        have HBEL5 := Lib.hid (Bs.sq hbel4 hbel5)
        clear HOWN4 hbel4 hbel5
        go_wp2_with fail
        refine (rchain_any _ _ _ (by assumption) (by omega)).mono ?_
        rintro e w5 ⟨rfl, hb6⟩
        have hcs := (hb6.cell (World.block_lt_of_cell? _ _ (by assumption))).trans hcs
        have hct := (hb6.cell (World.block_lt_of_cell? _ _ (by assumption))).trans hct
        have HOWN6 := Lib.hid (Bs.own_below HOWN5.out hb6)
        have HBEL6 := Lib.hid (Bs.sq HBEL5.out hb6)
        clear hb6 HOWN5 HBEL5
        go_wp2_with fail
        refine (rchain_any _ _ _ (by assumption) (by omega)).mono ?_
        rintro e w6 ⟨rfl, hb7⟩
        have HOWN7 := Lib.hid (Bs.own_below HOWN6.out hb7)
        have HBEL7 := Lib.hid (Bs.sq HBEL6.out hb7)
        clear hb7 HOWN6 HBEL6 hcs hct
        clear hXl' hYl'
        go_wp2
        go_roundw
        case rel =>
          refine ⟨k + 1, by omega, by go_num, by rw [HXs.out], by rw [HYs.out], ?_, by rw [HHs.out]; exact HOWN7.out, HBEL7.out⟩
          rw [HSM.out, ← Hq.out]; rfl
        case measure => simp [intOf]; omega
    · obtain rfl : k = n := by omega
      have hl1 : (ss.take k).length = k := by rw [List.length_take, ← HN1.out]; omega
      have hl2 : (tt.take k).length = k := by rw [List.length_take, ← HN2.out]; omega
      have hXl := P5.chainF_lt (dl (ss.take k)) HX.out
      have hYl := P5.chainF_lt (dl (tt.take k)) HX.out
      have HL := Lib.hid (P5.chains_law (dl (ss.take k)) (dl (tt.take k)) x x (by unfold dl; rw [List.length_map, List.length_map, hl1, hl2]) HX.out HX.out)
      have HH := Lib.hid (P5.hs_length (dl (ss.take k)) (dl (tt.take k)) x x (by unfold dl; rw [List.length_map, List.length_map, hl1, hl2]))
      have hsame : ss.take k = tt.take k → P5.chainF x (dl (ss.take k)) = P5.chainF x (dl (tt.take k)) := fun h => by rw [h]
      clear hl1 hl2
      by_cases hst : ss.take k = tt.take k
      · have h1 := hsame hst
        rw [decide_eq_true hst] at *
        have hxy : (((P5.chainF x (dl (ss.take k)) : Nat) : Int) == ((P5.chainF x (dl (tt.take k)) : Nat) : Int)) = true := by rw [h1]; exact beq_self_eq_true _
        clear hst h1 hsame HL HH hXl hYl
        generalize P5.chainF x (dl (ss.take k)) = X at *
        generalize P5.chainF x (dl (tt.take k)) = Y at *
        go_wp2_with (go_at_call 11; refine (awake_any _).mono ?_; rintro e w5 ⟨rfl, hb5⟩)
        go_ret
        exact ⟨rfl, Bs.sq hbel hb5⟩
      · rw [decide_eq_false hst] at *
        clear hsame
        have HST := Lib.hid hst
        clear hst
        by_cases hxy : P5.chainF x (dl (ss.take k)) = P5.chainF x (dl (tt.take k))
        · have hxy' : (((P5.chainF x (dl (ss.take k)) : Nat) : Int) == ((P5.chainF x (dl (tt.take k)) : Nat) : Int)) = true := by rw [hxy]; exact beq_self_eq_true _
          have hbad := (HL.out hxy).resolve_left (fun h => HST.out (dl_inj h.2))
          have HB := Lib.hid hbad
          clear hbad hxy HL hXl hYl
          have hown2 := Lib.hid hown
          obtain ⟨hlen, hv⟩ := hown
          rcases hv with ⟨hv1, hv2⟩ | ⟨g, cap, cur, rfl, hg, hgg, hncap, hcm, hcs, htk⟩
          · exfalso
            obtain ⟨i, j, hij, s, t, h1, _⟩ := HB.out
            have := (List.getElem?_eq_some_iff.1 h1).1
            rw [List.length_map] at hlen
            omega
          · have Hbad2 : Hid (∃ i j, j < i ∧ Bad ((P5.hs x x (dl (ss.take k)) (dl (tt.take k))).map Bs.mk) i j) := by
              obtain ⟨i, j, hij, s, t, h1, h2, h3, h4⟩ := HB.out
              refine ⟨i, j, hij, Bs.mk s, Bs.mk t, by rw [List.getElem?_map, h1]; rfl, by rw [List.getElem?_map, h2]; rfl, fun e => h3 (congrArg (fun b : ByteArray => b.data.toList) e), h4⟩
            have Hcells : Hid (∀ (i : Nat) (s : ByteArray), ((P5.hs x x (dl (ss.take k)) (dl (tt.take k))).map Bs.mk)[i]? = some s → wr.cell? ⟨g, 0 + i, none⟩ = some (.string s)) := by
              intro i s hsi
              rw [List.getElem?_map] at hsi
              obtain ⟨l, h1, rfl⟩ := Option.map_eq_some_iff.1 hsi
              have := World.ownsRow.cells hown2.out (g := g) rfl i (strV l) (by rw [List.getElem?_map, h1]; rfl)
              rw [show ((⟨g, 0, none⟩ : Addr).add i) = ⟨g, 0 + i, none⟩ from by simp [Addr.add]; intro h; rw [h]] at this
              exact this
            have Hsz : Hid (∀ (i : Nat) (s : ByteArray), ((P5.hs x x (dl (ss.take k)) (dl (tt.take k))).map Bs.mk)[i]? = some s → s.size ≤ maxLen) := by
              intro i s hsi
              rw [List.getElem?_map] at hsi
              obtain ⟨l, h1, rfl⟩ := Option.map_eq_some_iff.1 hsi
              obtain ⟨z, r, rfl, hr⟩ := P5.hs_mem _ _ _ _ _ (List.mem_of_getElem? h1)
              have hr' : r.length ≤ 140737488351232 := by
                rcases hr with hr | hr
                · exact dl_size ss k (fun i s h => (HC1.out i s h).2) r hr
                · exact dl_size tt k (fun i s h => (HC2.out i s h).2) r hr
              rw [Bs.mk_size, P5.linkL_length]; unfold maxLen; omega
            have HH2 := Lib.hid (show 2 * k = ((P5.hs x x (dl (ss.take k)) (dl (tt.take k))).map Bs.mk).length by rw [List.length_map, HH.out]; unfold dl; rw [List.length_map, List.length_take, ← HN1.out]; omega)
            clear HH
            generalize P5.hs x x (dl (ss.take k)) (dl (tt.take k)) = Hs at *
            clear HB hown2 hlen htk hcs hgg
            go_wp2_with fail
            refine (collide_any g 0 (2 * k) cap _ _ HH2.out (by omega) Hcells.out Hsz.out).mono ?_
            rintro e w5 ⟨⟨c, rfl, hc⟩, hb5⟩
            obtain rfl : c = true := hc Hbad2.out
            go_wp2_with (go_at_call 11; refine (awake_any _).mono ?_; rintro e w5 ⟨rfl, hb6⟩)
            go_ret
            exact ⟨rfl, Bs.sq (Bs.sq hbel hb5) hb6⟩
        · have hxy' : (((P5.chainF x (dl (ss.take k)) : Nat) : Int) == ((P5.chainF x (dl (tt.take k)) : Nat) : Int)) = false := by rw [beq_eq_false_iff_ne]; omega
          clear hxy HL HH hXl hYl
          generalize P5.chainF x (dl (ss.take k)) = X at *
          generalize P5.chainF x (dl (tt.take k)) = Y at *
          go_wp2_with (go_at_call 11; refine (awake_any _).mono ?_; rintro e w5 ⟨rfl, hb5⟩)
          go_ret
          exact ⟨rfl, Bs.sq hbel hb5⟩

set_option maxRecDepth 100000 in
set_option maxHeartbeats 800000 in
theorem chains_nil (x : Nat) (a1 a2 : Option Addr) (n1 c1 n2 c2 : Nat) (w : World) (hm1 : n1 ≤ 9223372036854775807) (hm2 : n2 ≤ 9223372036854775807) (h0 : n1 = 0 ∨ n2 = 0) :
    Calls Try.prog 8 #[.int .u64 x, .slice a1 n1 c1, .slice a2 n2 c2] w fun e w' => e = .returned (.bool true) ∧ Below w.heap.size w w' := by
  have hmin : ∀ ts t W, (Builtin.min_ ts t #[.int .i64 (n1 : Int), .int .i64 (n2 : Int), .int .i64 40]).run Try.prog W = .ok (.int .i64 0) W := by
    intro ts t W
    rw [run_min_int3]
    have : (if (40 : Int) < (if (n2 : Int) < (n1 : Int) then (n2 : Int) else (n1 : Int)) then (40 : Int) else (if (n2 : Int) < (n1 : Int) then (n2 : Int) else (n1 : Int))) = 0 := by
      rcases h0 with rfl | rfl
      · rw [if_neg (show ¬ ((n2 : Int) < ((0 : Nat) : Int)) by omega), if_neg (by omega)]; rfl
      · by_cases h : ((0 : Nat) : Int) < (n1 : Int)
        · rw [if_pos h, if_neg (by omega)]; rfl
        · rw [if_neg h, if_neg (by omega)]; omega
    rw [this]
  clear h0
  go_enter Try.func8, Try.ntmps8
  go_wp2
  refine wp_loop_rounds 1 ?_
  rw [rounds_succ]
  go_wp2_with (go_at_call 11; refine (awake_any _).mono ?_; rintro e w5 ⟨rfl, hb5⟩)
  go_ret
  exact ⟨rfl, hb5⟩

theorem u64_of (a : Int) (h : (Lit.int .u64 a).wf = true) : ∃ p : Nat, a = (p : Int) ∧ p < 18446744073709551616 := by
  have := (by simpa [Lit.wf, IntKind.min, IntKind.max, IntKind.signed, IntKind.bits] using h : 0 ≤ a ∧ a ≤ 18446744073709551615)
  exact ⟨a.toNat, by omega, by omega⟩

theorem walk_ChecksumChains (w : World) (a0 : Int) (w0 : (Lit.int .u64 a0).wf = true) (v1 : Value) (ss : List ByteArray) (h1 : Bs.StrsAt w v1 ss) (v2 : Value) (tt : List ByteArray) (h2 : Bs.StrsAt w v2 tt) :
    Calls Try.prog 8 #[.int .u64 a0, v1, v2] w fun e w' => e = .returned (.bool true) ∧ Below w.heap.size w w' := by
  obtain ⟨x, rfl, hx⟩ := u64_of a0 w0
  obtain ⟨p1, n1, c1, rfl, hn1, hm1, k1⟩ := h1
  obtain ⟨p2, n2, c2, rfl, hn2, hm2, k2⟩ := h2
  rcases k1 with h0 | ⟨b1, o1, rfl, hb1, hc1⟩
  · exact chains_nil x p1 p2 n1 c1 n2 c2 w hm1 hm2 (.inl h0)
  · rcases k2 with h0 | ⟨b2, o2, rfl, hb2, hc2⟩
    · exact chains_nil x _ p2 n1 c1 n2 c2 w hm1 hm2 (.inr h0)
    · exact chains_core x b1 o1 n1 c1 b2 o2 n2 c2 ss tt w hx hn1 hn2 hm1 hm2 hc1 hc2 hb1 hb2
end Go.Proofs.Ytoocfgpoboneoaa
