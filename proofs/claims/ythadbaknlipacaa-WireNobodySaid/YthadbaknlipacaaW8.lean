/- A reader that does not exist; the law WireNobody. -/
import Derived.Test.YthadbaknlipacaaW7
namespace Go.Proofs.Ythadbaknlipacaa
open Go.RowKit
set_option linter.unusedVariables false
set_option maxRecDepth 100000
set_option maxHeartbeats 400000

theorem step_nil (w : World) (fv : Value) : Calls Try.prog 33 #[.pointer none, fv] w fun r w' => r = .returned (.tuple #[]) ∧ w' = w := by
  go_enter Try.func33, Try.ntmps33
  go_wp2_with fail
  refine bodyPost_ret (results_none rfl _ _ _) rfl ⟨rfl, rfl⟩
theorem uint_nil (w : World) : Calls Try.prog 18 #[.pointer none] w fun r w' => r = .returned (.int .u64 0) ∧ Below w.heap.size w w' := by
  go_enter Try.func18, Try.ntmps18
  go_wp2_with (go_at_call 33; refine (step_nil _ _).mono ?_; rintro r w' ⟨rfl, rfl⟩)
  go_ret
  exact ⟨rfl, Bs.al (Bs.rf w) _⟩
theorem int_nil (w : World) : Calls Try.prog 19 #[.pointer none] w fun r w' => r = .returned (.int .i64 0) ∧ Below w.heap.size w w' := by
  go_enter Try.func19, Try.ntmps19
  go_wp2_with (go_at_call 18; refine (uint_nil _).mono ?_; rintro r w' ⟨rfl, hb⟩)
  go_ret
  exact ⟨Bs.ret_int (by decide +kernel), hb⟩
theorem small_nil (w : World) (m : Int) : Calls Try.prog 26 #[.pointer none, .int .i64 m] w fun r w' => r = .returned (.int .i64 0) ∧ Below w.heap.size w w' := by
  go_enter Try.func26, Try.ntmps26
  go_wp2_with (go_at_call 33; refine (step_nil _ _).mono ?_; rintro r w' ⟨rfl, rfl⟩)
  go_ret
  exact ⟨rfl, Bs.al (Bs.al (Bs.rf w) _) _⟩
theorem text_nil (w : World) (m : Int) : Calls Try.prog 20 #[.pointer none, .int .i64 m] w fun r w' => r = .returned (.string ⟨#[]⟩) ∧ Below w.heap.size w w' := by
  go_enter Try.func20, Try.ntmps20
  go_wp2_with (go_at_call 33; refine (step_nil _ _).mono ?_; rintro r w' ⟨rfl, rfl⟩)
  go_ret
  exact ⟨rfl, Bs.al (Bs.al (Bs.rf w) _) _⟩
theorem left_nil (w : World) : Calls Try.prog 21 #[.pointer none] w fun r w' => r = .returned (.int .i64 0) ∧ w' = w := by
  go_enter Try.func21, Try.ntmps21
  go_wp2
  go_ret
  exact ⟨rfl, rfl⟩
theorem err_nil (w : World) : Calls Try.prog 22 #[.pointer none] w fun r w' => r = .returned (.int .i64 6) ∧ w' = w := by
  go_enter Try.func22, Try.ntmps22
  go_wp2
  go_ret
  exact ⟨rfl, rfl⟩
theorem end_nil (w : World) : Calls Try.prog 29 #[.pointer none] w fun r w' => r = .returned (.int .i64 6) ∧ w' = w := by
  go_enter Try.func29, Try.ntmps29
  go_wp2_with (go_at_call 22; refine (err_nil _).mono ?_; rintro r w' ⟨rfl, rfl⟩)
  go_ret
  exact ⟨rfl, rfl⟩

theorem walk_WireNobody (m : Int) (wm : (Lit.int .i64 m).wf = true) (w : World) :
    Calls Try.prog 9 #[.int .i64 m] w fun e w' => e = .returned (.bool true) ∧ Below w.heap.size w w' := by
  go_enter Try.func9, Try.ntmps9
  go_wp2_with fail
  refine (uint_nil _).mono ?_
  rintro r wa ⟨rfl, h1⟩
  go_wp2_with fail
  refine (int_nil _).mono ?_
  rintro r wb ⟨rfl, h2⟩
  go_wp2_with fail
  refine (small_nil _ _).mono ?_
  rintro r wc ⟨rfl, h3⟩
  go_wp2_with fail
  refine (text_nil _ _).mono ?_
  rintro r wd ⟨rfl, h4⟩
  go_wp2_with fail
  refine (left_nil _).mono ?_
  rintro r we ⟨rfl, rfl⟩
  go_wp2_with fail
  refine (end_nil _).mono ?_
  rintro r we ⟨rfl, rfl⟩
  go_wp2_with fail
  refine (err_nil _).mono ?_
  rintro r we ⟨rfl, rfl⟩
  go_wp2_with (go_at_call 10; refine (awake_any _).mono ?_; rintro e w2 ⟨rfl, h7⟩)
  go_ret
  exact ⟨rfl, Bs.sq (Bs.sq (Bs.sq (Bs.sq h1 h2) h3) h4) h7⟩
end Go.Proofs.Ythadbaknlipacaa
