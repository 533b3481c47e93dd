/- The row of the law FnExactNamesIn, out of its pure statement and the walk of its function. -/
import Derived.Test.YtfinjkjnoobbjaaRows
import Derived.Test.YtfinjkjnoobbjaaMFnExactNamesInx12
import Derived.Test.YtfinjkjnoobbjaaOpFnExactNamesIn
import Derived.Test.YtfinjkjnoobbjaaPureFnExactNamesIn
import Derived.WalkKit
import Derived.ProofKit
import Derived.OpenShut
import Derived.ShutString
import Derived.ChangeOld
import Derived.Below
import Derived.SizedLaws
import Derived.WideShapes
import Derived.Lib.SmallJoins
namespace Go.Proofs.Ytfinjkjnoobbjaa.fnExactNamesIn
open Go.ChangeShapes Go.WideShapes Go.ChangeAt Go.RowKit Go.Joins Go.Deep Go.Proofs.Ytfinjkjnoobbjaa.MyOpen Go.Proofs.YtfinjkjnoobbjaaW.PrintWords
open Go.ChangeMaps (open_string shut_string)
set_option linter.unusedVariables false
theorem own : ownKnob Try.prog.godebug = none := by kernel_rfl
theorem laidOut : laidOutB Try.prog = true := by kernel_rfl
set_option maxHeartbeats 2000000 in
set_option maxRecDepth 100000 in
theorem lifted (os : Os) (started : os.Started) (H : Type) (enc : TypeId × Value → H) :
    ReturnsInHanded {} Try.checked os 6 .any (Rows.fnExactNamesInSpec.pre6 enc Try.prog Try.f6 Rows.fnExactNamesInRow.domain false) (Rows.fnExactNamesInSpec.post enc Try.prog Try.f6 false true false false) := by
  refine returnsInHanded_of_change_sized (C := Try.checked) own started (by kernel_rfl) Try.func6
    (ChangeSpec.witness6 (enc := enc) (C := Try.checked) false ⟨#[], #[.slice none 0 0, .slice none 0 0], []⟩ 8 (by kernel_rfl) (by kernel_rfl) (by kernel_rfl) (by kernel_rfl)) ?_
  intro W base args ds gs before hval0 hW hcnd hsz0 _
  have hsz : (DataW.weightsEach Try.prog (Try.f6.params.toList ++ Rows.fnExactNamesInSpec.plain.varTypes Try.prog) (ds ++ gs)).all (· ≤ reachBytes) = true := hsz0
  have hval : ∀ (j : Nat) t v, Try.f6.params[j]? = some t → args[j]? = some v → Value.okWide Try.prog W .any base t v := hval0
  have hW' := hW
  have hlt0 : ∀ q ∈ before, q.block < W.heap.size := fun q hq => hW.lt q hq
  obtain ⟨p, q, hA0, hV, rfl, hfz, hnd⟩ := hW
  have hA : DataW.TrodAll enc Try.prog W 0 (fun _ => true) true Try.f6.params.toList args.toList ds p := hA0
  rw [Try.params6] at hA hval hsz
  have hAA := hA
  obtain ⟨v0, vs0, d0, ds0, p0, q0, hargs, rfl, rfl, h0, r0⟩ := trodAll_cons hA
  obtain ⟨v1, vs1, d1, ds1, p1, q1, rfl, rfl, rfl, h1, r1⟩ := trodAll_cons r0
  obtain ⟨rfl, rfl, rfl⟩ := trodAll_nil r1
  obtain rfl : args = #[v0, v1] := by cases args; simp_all
  obtain ⟨rfl, rfl⟩ := trodVars_none hV
  obtain ⟨y0, hK0, ok0⟩ := open_op (op_slice 24 Try.underlying58 (by kernel_rfl) (by kernel_rfl) OpFnExactNamesIn.op125) h0 (weights_of hsz (j := 0) (t := 58) rfl rfl)
  obtain ⟨a0, len0, cap0, rfl⟩ := okWide_slice Try.underlying58 (hval 0 58 v0 rfl rfl)
  obtain ⟨A0_0, c0_0, e0, hc0_0, hr0_0⟩ := hK0
  obtain ⟨rfl, rfl, rfl⟩ : a0 = A0_0 ∧ len0 = y0.length ∧ cap0 = c0_0 := by simpa [Value.cells] using e0
  obtain ⟨y1, hK1, ok1⟩ := open_op (op_slice 40 Try.underlying59 (by kernel_rfl) (by kernel_rfl) OpFnExactNamesIn.op118) h1 (weights_of hsz (j := 1) (t := 59) rfl rfl)
  obtain ⟨a1, len1, cap1, rfl⟩ := okWide_slice Try.underlying59 (hval 1 59 v1 rfl rfl)
  obtain ⟨A1_0, c1_0, e1, hc1_0, hr1_0⟩ := hK1
  obtain ⟨rfl, rfl, rfl⟩ : a1 = A1_0 ∧ len1 = y1.length ∧ cap1 = c1_0 := by simpa [Value.cells] using e1
  obtain ⟨k, h⟩ := Pure.FnExactNamesIn y0 y1 ok0 ok1
  refine (MFnExactNamesIn.laws_FnExactNamesIn.calls k a0 cap0 (y0) a1 cap1 (y1) true W hr0_0 hc0_0 hr1_0 hc1_0 h).mono fun e W' ⟨he, bel0⟩ => ?_
  subst he
  have bel : Below W.heap.size W W' := bel0
  have hrd : ∀ t ∈ ([58, 59] : List TypeId), Try.prog.readableRec t = true ∧ t < Try.prog.types.size := by
    intro t ht
    simp only [List.mem_cons, List.not_mem_nil, or_false] at ht
    rcases ht with rfl | rfl
    · exact ⟨by kernel_rfl, of_decide_eq_true (by kernel_rfl)⟩
    · exact ⟨by kernel_rfl, of_decide_eq_true (by kernel_rfl)⟩
  have hback := trodAll_below laidOut bel hrd (fun q hq => hlt0 q (by first | (simp at hq; done) | simpa using hq)) hAA
  exact ⟨_, rfl, _, _, _, [], _, [], hW', trodAll_mk1 (shut_bool Try.underlying4 _), hback, rfl, bel.frame _, fun h => by cases h⟩
theorem over : Rows.fnExactNamesInRow.holds Try.pinned (OpenSpec.ofChange Rows.fnExactNamesInSpec) :=
  OpenClaim.holds_of_wide 6 Try.f6 rfl rfl rfl rfl rfl rfl rfl ⟨rfl, rfl, rfl, rfl, rfl⟩ rfl rfl rfl rfl rfl (by kernel_rfl) Try.func6 (by kernel_rfl)
    (of_decide_eq_true (by kernel_rfl)) (by unfold Func.isWrapper; first | (rw [if_pos (by decide +kernel)]; kernel_rfl) | (rw [if_neg (by decide +kernel)]; exact ⟨rfl, rfl⟩))
    (fun os started H enc _ => lifted os started H enc)
theorem proved : Rows.FnExactNamesInSaid := over
#print axioms proved
end Go.Proofs.Ytfinjkjnoobbjaa.fnExactNamesIn
namespace Go.Proofs.Ytfinjkjnoobbjaa
theorem fnExactNamesIn_holds : Rows.FnExactNamesInSaid := fnExactNamesIn.proved
end Go.Proofs.Ytfinjkjnoobbjaa
