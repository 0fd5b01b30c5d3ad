/- The walks of the laws WireWrites, WireLengths. -/
import Derived.Test.YthadbaknlipacaaW6
namespace Go.Proofs.Ythadbaknlipacaa
open Go.RowKit
set_option linter.unusedVariables false

theorem u64_of (a : Int) (h : (Lit.int .u64 a).wf = true) : ∃ p : Nat, a = (p : Int) ∧ p < 18446744073709551616 := by
  have := (by simpa [Lit.wf, IntKind.min, IntKind.max, IntKind.signed, IntKind.bits] using h : 0 ≤ a ∧ a ≤ 18446744073709551615)
  exact ⟨a.toNat, by omega, by omega⟩

set_option maxRecDepth 100000 in
set_option maxHeartbeats 800000 in
theorem walk_WireWrites (a0 : Int) (w0 : (Lit.int .u64 a0).wf = true) (m : Int) (w1 : (Lit.int .i64 m).wf = true) (s : ByteArray) (hs : s.size ≤ 140737488351232) (w : World) :
    Calls Try.prog 3 #[.int .u64 a0, .int .i64 m, .string s] w fun e w' => e = .returned (.bool true) ∧ Below w.heap.size w w' := by
  obtain ⟨n, rfl, hn⟩ := u64_of a0 w0
  have HN := Lib.hid hn
  clear w0 hn
  by_cases h3 : 300 < s.size
  · go_enter Try.func3, Try.ntmps3
    go_wp2_with (go_at_call 10; refine (awake_any _).mono ?_; rintro e w2 ⟨rfl, hb⟩)
    go_ret
    exact ⟨rfl, hb⟩
  · go_enter Try.func3, Try.ntmps3
    go_wp2_with fail
    refine (uint_any _ _ HN.out).mono ?_
    rintro r wa ⟨rfl, h1⟩
    go_wp2_with fail
    refine (ruint_any _ _ HN.out).mono ?_
    rintro r wb ⟨rfl, h2⟩
    go_wp2_with fail
    refine (int_any _ _ w1).mono ?_
    rintro r wc ⟨rfl, h3⟩
    go_wp2_with fail
    refine (rint_any _ _ w1).mono ?_
    rintro r wd ⟨rfl, h4⟩
    go_wp2_with fail
    refine (text_any _ _ (by omega)).mono ?_
    rintro r we ⟨rfl, h5⟩
    go_wp2_with fail
    refine (rtext_any _ _ (by omega)).mono ?_
    rintro r wf ⟨rfl, h6⟩
    go_wp2_with (go_at_call 10; refine (awake_any _).mono ?_; rintro e w2 ⟨rfl, h7⟩)
    go_ret
    exact ⟨rfl, Bs.sq (Bs.sq (Bs.sq (Bs.sq (Bs.sq (Bs.sq h1 h2) h3) h4) h5) h6) h7⟩
end Go.Proofs.Ythadbaknlipacaa
