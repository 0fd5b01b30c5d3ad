/- The statement WriterPlays: for every input the law returns true and leaves its arguments as they were; out of its walk. No condition. -/
import Derived.Test.YtofcadbfjbefkaaGreatRows
import Derived.Test.YtofcadbfjbefkaaGreatChecked
import Derived.Test.YtofcadbfjbefkaaGreatZ6
import Derived.ProofKit
import Derived.SizedLaws
import Derived.Carry
namespace Go.Proofs.YtofcadbfjbefkaaGreat.writerPlays
open Go.ChangeShapes Go.WideShapes Go.ChangeAt Go.RowKit Go.X
open Go.ChangeMaps (open_string shut_string)
theorem own : ownKnob Tryz.prog.godebug = none := by kernel_rfl
theorem laidOut : laidOutB Tryz.prog = true := by kernel_rfl
theorem kinds0 : kindsOf Tryz.prog 12 23 = some [.b, .b, .b, .i .i64, .i .i64, .i .i64, .i .i64] := by kernel_rfl
theorem kinds2 : kindsOf Tryz.prog 12 25 = some [.sl [.i .u8, .i .u8, .i .i64, .sl [.i .i64], .b, .b, .b, .i .i64, .i .i64, .i .i64, .i .i64, .s, .i .u8]] := by kernel_rfl
set_option maxRecDepth 100000 in
theorem lifted (os : Os) (started : os.Started) (H : Type) (enc : TypeId × Value → H) :
    ReturnsInHanded {} Tryz.checked os 3 .any (Rows.writerPlaysSpec.pre6 enc Tryz.prog Tryz.f3 Rows.writerPlaysRow.domain false) (Rows.writerPlaysSpec.post enc Tryz.prog Tryz.f3 false true false false) := by
  refine returnsInHanded_of_change_sized (C := Tryz.checked) own started (by kernel_rfl) Tryz.func3
    (ChangeSpec.witness6 (enc := enc) (C := Tryz.checked) false ⟨#[], #[.agg #[.bool false, .bool false, .bool false, .int .i64 0, .int .i64 0, .int .i64 0, .int .i64 0], .int .u16 0, .slice none 0 0], []⟩ 8 (by kernel_rfl) (by kernel_rfl) (by kernel_rfl) (by kernel_rfl)) ?_
  intro W base args ds gs before hval0 hW _ hsz0 _
  have hsz : (DataW.weightsEach Tryz.prog (Tryz.f3.params.toList ++ Rows.writerPlaysSpec.plain.varTypes Tryz.prog) (ds ++ gs)).all (· ≤ reachBytes) = true := hsz0
  clear hsz0
  have hval : ∀ (j : Nat) t v, Tryz.f3.params[j]? = some t → args[j]? = some v → Value.okWide Tryz.prog W .any base t v := hval0
  have hW' := hW
  obtain ⟨p, q, hA0, hV, rfl, _, _⟩ := hW
  have hA : DataW.TrodAll enc Tryz.prog W 0 (fun _ => true) true Tryz.f3.params.toList args.toList ds p := hA0
  rw [Tryz.params3] at hA hval hsz
  obtain ⟨v0, vs0, d0, ds0, p0, q0, hargs, rfl, rfl, h0, r0⟩ := trodAll_cons hA
  obtain ⟨v1, vs1, d1, ds1, p1, q1, rfl, rfl, rfl, h1, r1⟩ := trodAll_cons r0
  obtain ⟨v2, vs2, d2, ds2, p2, q2, rfl, rfl, rfl, h2, r2⟩ := trodAll_cons r1
  obtain ⟨rfl, rfl, rfl⟩ := trodAll_nil r2
  obtain rfl : args = #[v0, v1, v2] := by cases args; simp_all
  obtain ⟨rfl, rfl⟩ := trodVars_none hV
  obtain ⟨a1, rfl, rfl, rfl, w1⟩ := open_int Tryz.underlying24 (hval 1 24 v1 rfl rfl) h1
  have hlt0 : ∀ x ∈ ((p0) ++ ([]) ++ (p2) ++ [] : List MemPlace), x.block < W.heap.size := fun x hx => by simpa using hW'.lt x (by simpa using hx)
  have hlt1 : ∀ x ∈ p0, x.block < W.heap.size := fun x hx => hlt0 x (by simp [hx])
  have k0 := arg_view (W := W) kinds0 h0 hlt1 hsz (j := 0) rfl rfl
  obtain ⟨c0, rfl⟩ := ok_agg Tryz.underlying23 (hval 0 23 v0 rfl rfl)
  have hlt3 : ∀ x ∈ p2, x.block < W.heap.size := fun x hx => hlt0 x (by simp [hx])
  have k2 := arg_view (W := W) kinds2 h2 hlt3 hsz (j := 2) rfl rfl
  obtain ⟨⟨z2, n2, m2, rfl⟩, e2⟩ := ok_spot Tryz.underlying25 (hval 2 25 v2 rfl rfl)
  clear hA0 hval0
  refine (walk_WriterPlays W c0 k0 a1 w1 _ k2.1 e2).mono fun e W' ⟨he, hb⟩ => ?_
  subst he
  exact ⟨_, rfl, _, _, _, [], p0 ++ ([] ++ (p2 ++ ([]))), [], hW', (trodAll_cons_mk (shut_bool Tryz.underlying4 _) trodAll_mk0), (trodAll_cons_mk (Below.trod laidOut (by kernel_rfl) (of_decide_eq_true (by kernel_rfl)) h0 hb hlt1) (trodAll_cons_mk (shut_int Tryz.underlying24 w1) (trodAll_cons_mk (Below.trod laidOut (by kernel_rfl) (of_decide_eq_true (by kernel_rfl)) h2 hb hlt3) trodAll_mk0))), rfl, hb.frame _, fun h => by cases h⟩
theorem proved : Rows.WriterPlaysSaid :=
  OpenClaim.holds_of_wide 3 Tryz.f3 rfl rfl rfl rfl rfl rfl rfl ⟨rfl, rfl, rfl, rfl, rfl⟩ rfl rfl rfl rfl rfl (by kernel_rfl) Tryz.func3 (by kernel_rfl)
    (of_decide_eq_true (by kernel_rfl)) (by unfold Func.isWrapper; first | (rw [if_pos (by decide +kernel)]; kernel_rfl) | (rw [if_neg (by decide +kernel)]; exact ⟨rfl, rfl⟩))
    (fun os started H enc _ => lifted os started H enc)
#print axioms proved
end Go.Proofs.YtofcadbfjbefkaaGreat.writerPlays
