/- Made by a program of this session (out of the kit's print, with hand-made contracts): what each Go function that the law reaches computes, and that the machine's call does so. -/
import Derived.Test.YtfinjkjnoobbjaaXFnTeamsMyHof
import Derived.Test.YtfinjkjnoobbjaaMFnTeamsx0
import Derived.Test.YtfinjkjnoobbjaaMFnTeamsx1
import Derived.Test.YtfinjkjnoobbjaaMFnTeamsx10
import Derived.Test.YtfinjkjnoobbjaaMFnTeamsx16
import Derived.Test.YtfinjkjnoobbjaaMFnTeamsx17
import Derived.Test.YtfinjkjnoobbjaaMFnTeamsx18
import Derived.Test.YtfinjkjnoobbjaaMFnTeamsx19
namespace Go.Proofs.Ytfinjkjnoobbjaa.MFnTeams
open Go.RowKit Go.Proofs.YtfinjkjnoobbjaaW.PrintWords Go.Proofs.YtfinjkjnoobbjaaW.PrintLast Go.Proofs.YtfinjkjnoobbjaaW.PrintMore
attribute [local go_sem] max2_int min2_int max_two min_two max_three min_three max_four min_four   -- for this text's walks alone
set_option linter.unusedVariables false
set_option linter.unusedSimpArgs false

/-! ### laws_FnTeams: function 7 -/
def laws_FnTeams.l0 : Nat → List (S84) → List Int → List Int → Int → List Int → Int → Int → Int → ByteArray → Option (Bool)
  | 0, _, _, _, _, _, _, _, _, _ => none
  | k + 1, x4, x5, x6, x7, x8, x9, x387000, x387001, x387002 => if x9 < (x387002.size : Int) then ((some (([] : List (S84)) : List (S84))).bind fun y439 => (if y439.length + x4.length < 4398046511104 then ((impl_HolderOf.f k (y439 ++ x4) x9).bind fun t445 => ((some (([] : List (S84)) : List (S84))).bind fun y446 => (if y446.length + x4.length < 4398046511104 then ((impl_RobotAt.f (y446 ++ x4) t445).bind fun t452 => ((laws_has.f k x5 x9).bind fun t453 => (if t453 = true then (if ((decide (t445 ≥ 0)) != true) = true then (none) else ((laws_has.f k x5 x9).bind fun t454 => (if t454 = true then ((laws_has.f k x6 x9).bind fun t455 => (if t455 = true then (none) else (if t445 ≥ 0 then (if t452 < 0 then (none) else (if 0 ≤ t452 then (if t452 < (x4.length : Int) then (if ((rd_T84 x4 t452).f1) = x9 then ((laws_has.f k x8 x9).bind fun t457 => (if t457 = true then (if t445 < 0 then (none) else (if (rd_T84 x4 t452).f3 = true then (none) else (if ((rd_T84 x4 t452).f2) = (-1) then (laws_FnTeams.l0 k x4 x5 x6 x7 x8 (wrap64 (x9 + 1)) x387000 x387001 x387002) else (none)))) else (laws_FnTeams.l0 k x4 x5 x6 x7 x8 (wrap64 (x9 + 1)) x387000 x387001 x387002))) else (if ((rd_T84 x4 t452).f2) = x9 then ((laws_has.f k x8 x9).bind fun t461 => (if t461 = true then (if t445 < 0 then (none) else (if (rd_T84 x4 t452).f3 = true then (none) else (if ((rd_T84 x4 t452).f2) = (-1) then (laws_FnTeams.l0 k x4 x5 x6 x7 x8 (wrap64 (x9 + 1)) x387000 x387001 x387002) else (none)))) else (laws_FnTeams.l0 k x4 x5 x6 x7 x8 (wrap64 (x9 + 1)) x387000 x387001 x387002))) else (none))) else (none)) else (none))) else ((laws_has.f k x8 x9).bind fun t464 => (if t464 = true then (if t445 < 0 then (none) else (if 0 ≤ t452 then (if t452 < (x4.length : Int) then (if (rd_T84 x4 t452).f3 = true then (none) else (if ((rd_T84 x4 t452).f2) = (-1) then (laws_FnTeams.l0 k x4 x5 x6 x7 x8 (wrap64 (x9 + 1)) x387000 x387001 x387002) else (none))) else (none)) else (none))) else (laws_FnTeams.l0 k x4 x5 x6 x7 x8 (wrap64 (x9 + 1)) x387000 x387001 x387002)))))) else (if t445 ≥ 0 then (if t452 < 0 then (none) else (if 0 ≤ t452 then (if t452 < (x4.length : Int) then (if ((rd_T84 x4 t452).f1) = x9 then ((laws_has.f k x8 x9).bind fun t468 => (if t468 = true then (if t445 < 0 then (none) else (if (rd_T84 x4 t452).f3 = true then (none) else (if ((rd_T84 x4 t452).f2) = (-1) then (laws_FnTeams.l0 k x4 x5 x6 x7 x8 (wrap64 (x9 + 1)) x387000 x387001 x387002) else (none)))) else (laws_FnTeams.l0 k x4 x5 x6 x7 x8 (wrap64 (x9 + 1)) x387000 x387001 x387002))) else (if ((rd_T84 x4 t452).f2) = x9 then ((laws_has.f k x8 x9).bind fun t472 => (if t472 = true then (if t445 < 0 then (none) else (if (rd_T84 x4 t452).f3 = true then (none) else (if ((rd_T84 x4 t452).f2) = (-1) then (laws_FnTeams.l0 k x4 x5 x6 x7 x8 (wrap64 (x9 + 1)) x387000 x387001 x387002) else (none)))) else (laws_FnTeams.l0 k x4 x5 x6 x7 x8 (wrap64 (x9 + 1)) x387000 x387001 x387002))) else (none))) else (none)) else (none))) else ((laws_has.f k x8 x9).bind fun t475 => (if t475 = true then (if t445 < 0 then (none) else (if 0 ≤ t452 then (if t452 < (x4.length : Int) then (if (rd_T84 x4 t452).f3 = true then (none) else (if ((rd_T84 x4 t452).f2) = (-1) then (laws_FnTeams.l0 k x4 x5 x6 x7 x8 (wrap64 (x9 + 1)) x387000 x387001 x387002) else (none))) else (none)) else (none))) else (laws_FnTeams.l0 k x4 x5 x6 x7 x8 (wrap64 (x9 + 1)) x387000 x387001 x387002))))))) else ((laws_has.f k x6 x9).bind fun t478 => (if ((decide (t445 ≥ 0)) != t478) = true then (none) else ((laws_has.f k x5 x9).bind fun t479 => (if t479 = true then ((laws_has.f k x6 x9).bind fun t480 => (if t480 = true then (none) else (if t445 ≥ 0 then (if t452 < 0 then (none) else (if 0 ≤ t452 then (if t452 < (x4.length : Int) then (if ((rd_T84 x4 t452).f1) = x9 then ((laws_has.f k x8 x9).bind fun t482 => (if t482 = true then (if t445 < 0 then (none) else (if (rd_T84 x4 t452).f3 = true then (none) else (if ((rd_T84 x4 t452).f2) = (-1) then (laws_FnTeams.l0 k x4 x5 x6 x7 x8 (wrap64 (x9 + 1)) x387000 x387001 x387002) else (none)))) else (laws_FnTeams.l0 k x4 x5 x6 x7 x8 (wrap64 (x9 + 1)) x387000 x387001 x387002))) else (if ((rd_T84 x4 t452).f2) = x9 then ((laws_has.f k x8 x9).bind fun t486 => (if t486 = true then (if t445 < 0 then (none) else (if (rd_T84 x4 t452).f3 = true then (none) else (if ((rd_T84 x4 t452).f2) = (-1) then (laws_FnTeams.l0 k x4 x5 x6 x7 x8 (wrap64 (x9 + 1)) x387000 x387001 x387002) else (none)))) else (laws_FnTeams.l0 k x4 x5 x6 x7 x8 (wrap64 (x9 + 1)) x387000 x387001 x387002))) else (none))) else (none)) else (none))) else ((laws_has.f k x8 x9).bind fun t489 => (if t489 = true then (if t445 < 0 then (none) else (if 0 ≤ t452 then (if t452 < (x4.length : Int) then (if (rd_T84 x4 t452).f3 = true then (none) else (if ((rd_T84 x4 t452).f2) = (-1) then (laws_FnTeams.l0 k x4 x5 x6 x7 x8 (wrap64 (x9 + 1)) x387000 x387001 x387002) else (none))) else (none)) else (none))) else (laws_FnTeams.l0 k x4 x5 x6 x7 x8 (wrap64 (x9 + 1)) x387000 x387001 x387002)))))) else (if t445 ≥ 0 then (if t452 < 0 then (none) else (if 0 ≤ t452 then (if t452 < (x4.length : Int) then (if ((rd_T84 x4 t452).f1) = x9 then ((laws_has.f k x8 x9).bind fun t493 => (if t493 = true then (if t445 < 0 then (none) else (if (rd_T84 x4 t452).f3 = true then (none) else (if ((rd_T84 x4 t452).f2) = (-1) then (laws_FnTeams.l0 k x4 x5 x6 x7 x8 (wrap64 (x9 + 1)) x387000 x387001 x387002) else (none)))) else (laws_FnTeams.l0 k x4 x5 x6 x7 x8 (wrap64 (x9 + 1)) x387000 x387001 x387002))) else (if ((rd_T84 x4 t452).f2) = x9 then ((laws_has.f k x8 x9).bind fun t497 => (if t497 = true then (if t445 < 0 then (none) else (if (rd_T84 x4 t452).f3 = true then (none) else (if ((rd_T84 x4 t452).f2) = (-1) then (laws_FnTeams.l0 k x4 x5 x6 x7 x8 (wrap64 (x9 + 1)) x387000 x387001 x387002) else (none)))) else (laws_FnTeams.l0 k x4 x5 x6 x7 x8 (wrap64 (x9 + 1)) x387000 x387001 x387002))) else (none))) else (none)) else (none))) else ((laws_has.f k x8 x9).bind fun t500 => (if t500 = true then (if t445 < 0 then (none) else (if 0 ≤ t452 then (if t452 < (x4.length : Int) then (if (rd_T84 x4 t452).f3 = true then (none) else (if ((rd_T84 x4 t452).f2) = (-1) then (laws_FnTeams.l0 k x4 x5 x6 x7 x8 (wrap64 (x9 + 1)) x387000 x387001 x387002) else (none))) else (none)) else (none))) else (laws_FnTeams.l0 k x4 x5 x6 x7 x8 (wrap64 (x9 + 1)) x387000 x387001 x387002))))))))))) else (none)))) else (none))) else (some ((wrap64 ((x5.length : Int) + (x6.length : Int))) == (wrap64 ((x4.length : Int) + x7))))
def laws_FnTeams.f (k : Nat) (l0 : List Int) : Option (Bool) := (laws_big.f l0).bind fun t379 => (if t379 = true then (some true) else ((spec_DrawTeam.f k l0).bind fun bt380 => ((some (([] : List (S84)) : List (S84))).bind fun y387 => (if y387.length + bt380.2.2.2.length < 4398046511104 then ((impl_RobotsOk.f k bt380.1 bt380.2.1 bt380.2.2.1 (y387 ++ bt380.2.2.2)).bind fun t393 => (if t393 = true then ((some (([] : List (S84)) : List (S84))).bind fun y394 => (if y394.length + bt380.2.2.2.length < 4398046511104 then ((impl_HeldBy.f k (y394 ++ bt380.2.2.2) true).bind fun t400 => ((some (([] : List (S84)) : List (S84))).bind fun y403 => (if y403.length + bt380.2.2.2.length < 4398046511104 then ((impl_HeldBy.f k (y403 ++ bt380.2.2.2) false).bind fun t409 => ((some (([] : List (S84)) : List (S84))).bind fun y412 => (if y412.length + bt380.2.2.2.length < 4398046511104 then ((impl_UnderWay.f k (y412 ++ bt380.2.2.2) true).bind fun t418 => ((some (([] : List (S84)) : List (S84))).bind fun y421 => (if y421.length + bt380.2.2.2.length < 4398046511104 then ((impl_UnderWay.f k (y421 ++ bt380.2.2.2) false).bind fun t427 => ((some (([] : List (S84)) : List (S84))).bind fun y430 => (if y430.length + bt380.2.2.2.length < 4398046511104 then ((impl_IdleCells.f k (y430 ++ bt380.2.2.2)).bind fun t436 => (laws_FnTeams.l0 k bt380.2.2.2 t400 t409 (wrap64 ((t418.length : Int) + (t427.length : Int))) t436 0 bt380.1 bt380.2.1 bt380.2.2.1)) else (none)))) else (none)))) else (none)))) else (none)))) else (none))) else (none))) else (none)))))
theorem laws_FnTeams.mono_l : ∀ k, (∀ y0 y1 y2 y3 y4 y5 y6 y7 y8, LeO (laws_FnTeams.l0 k y0 y1 y2 y3 y4 y5 y6 y7 y8) (laws_FnTeams.l0 (k + 1) y0 y1 y2 y3 y4 y5 y6 y7 y8))
  | 0 => fun _ _ _ _ _ _ _ _ _ r h => by simp [laws_FnTeams.l0] at h
  | k + 1 => by
    have ih0 := laws_FnTeams.mono_l k
    · intro y0 y1 y2 y3 y4 y5 y6 y7 y8
      unfold laws_FnTeams.l0
      repeat' first
      | (with_reducible exact ih0 _ _ _ _ _ _ _ _ _)
      | (with_reducible exact impl_HeldBy.mono _ _ _)
      | (with_reducible exact impl_HolderOf.mono _ _ _)
      | (with_reducible exact impl_IdleCells.mono _ _)
      | (with_reducible exact impl_RobotsOk.mono _ _ _ _ _)
      | (with_reducible exact impl_UnderWay.mono _ _ _)
      | (with_reducible exact laws_has.mono _ _ _)
      | (with_reducible exact spec_DrawTeam.mono _ _)
      | (with_reducible exact LeO.refl _)
      | (with_reducible exact LeO.none _)
      | (with_reducible refine LeO.ite ?_ ?_)
      | (with_reducible refine LeO.bind ?_ (fun _ => ?_))
      | exact ih0 _ _ _ _ _ _ _ _ _
      | exact impl_HeldBy.mono _ _ _
      | exact impl_HolderOf.mono _ _ _
      | exact impl_IdleCells.mono _ _
      | exact impl_RobotsOk.mono _ _ _ _ _
      | exact impl_UnderWay.mono _ _ _
      | exact laws_has.mono _ _ _
      | exact spec_DrawTeam.mono _ _
      | exact LeO.none _
      | refine LeO.ite ?_ ?_
      | refine LeO.bind ?_ (fun _ => ?_)
theorem laws_FnTeams.mono : ∀ a0 k, LeO (laws_FnTeams.f k a0) (laws_FnTeams.f (k + 1) a0) := by
  intro a0 k
  have ih0 := laws_FnTeams.mono_l k
  unfold laws_FnTeams.f
  repeat' first
      | (with_reducible exact ih0 _ _ _ _ _ _ _ _ _)
      | (with_reducible exact impl_HeldBy.mono _ _ _)
      | (with_reducible exact impl_HolderOf.mono _ _ _)
      | (with_reducible exact impl_IdleCells.mono _ _)
      | (with_reducible exact impl_RobotsOk.mono _ _ _ _ _)
      | (with_reducible exact impl_UnderWay.mono _ _ _)
      | (with_reducible exact laws_has.mono _ _ _)
      | (with_reducible exact spec_DrawTeam.mono _ _)
      | (with_reducible exact LeO.refl _)
      | (with_reducible exact LeO.none _)
      | (with_reducible refine LeO.ite ?_ ?_)
      | (with_reducible refine LeO.bind ?_ (fun _ => ?_))
      | exact ih0 _ _ _ _ _ _ _ _ _
      | exact impl_HeldBy.mono _ _ _
      | exact impl_HolderOf.mono _ _ _
      | exact impl_IdleCells.mono _ _
      | exact impl_RobotsOk.mono _ _ _ _ _
      | exact impl_UnderWay.mono _ _ _
      | exact laws_has.mono _ _ _
      | exact spec_DrawTeam.mono _ _
      | exact LeO.none _
      | refine LeO.ite ?_ ?_
      | refine LeO.bind ?_ (fun _ => ?_)
set_option maxHeartbeats 8000000 in
set_option maxRecDepth 100000 in
theorem laws_FnTeams.calls (k : Nat) (A0 : Option Addr) (c0 : Nat) (l0 : List Int) (r : Bool) (w : World) (hr0 : Kd.C (Kd.int .u8) w A0 l0.length l0) (hc0 : l0.length ≤ c0) (h : laws_FnTeams.f k l0 = some r) :
    Calls Try.prog 7 #[.slice A0 l0.length c0] w fun e w' => e = .returned (.bool r) ∧ Below w.heap.size w w' := by
  have hu27 := Try.underlying27
  have HR0 := Aside0.mk hr0
  have HC0 := Aside0.mk hc0
  clear hr0 hc0
  have HB := Aside0.mk (Below.refl w.heap.size w)
  have H : ((laws_big.f l0).bind fun t379 => (if t379 = true then (some true) else ((spec_DrawTeam.f k l0).bind fun bt380 => ((some (([] : List (S84)) : List (S84))).bind fun y387 => (if y387.length + bt380.2.2.2.length < 4398046511104 then ((impl_RobotsOk.f k bt380.1 bt380.2.1 bt380.2.2.1 (y387 ++ bt380.2.2.2)).bind fun t393 => (if t393 = true then ((some (([] : List (S84)) : List (S84))).bind fun y394 => (if y394.length + bt380.2.2.2.length < 4398046511104 then ((impl_HeldBy.f k (y394 ++ bt380.2.2.2) true).bind fun t400 => ((some (([] : List (S84)) : List (S84))).bind fun y403 => (if y403.length + bt380.2.2.2.length < 4398046511104 then ((impl_HeldBy.f k (y403 ++ bt380.2.2.2) false).bind fun t409 => ((some (([] : List (S84)) : List (S84))).bind fun y412 => (if y412.length + bt380.2.2.2.length < 4398046511104 then ((impl_UnderWay.f k (y412 ++ bt380.2.2.2) true).bind fun t418 => ((some (([] : List (S84)) : List (S84))).bind fun y421 => (if y421.length + bt380.2.2.2.length < 4398046511104 then ((impl_UnderWay.f k (y421 ++ bt380.2.2.2) false).bind fun t427 => ((some (([] : List (S84)) : List (S84))).bind fun y430 => (if y430.length + bt380.2.2.2.length < 4398046511104 then ((impl_IdleCells.f k (y430 ++ bt380.2.2.2)).bind fun t436 => (laws_FnTeams.l0 k bt380.2.2.2 t400 t409 (wrap64 ((t418.length : Int) + (t427.length : Int))) t436 0 bt380.1 bt380.2.1 bt380.2.2.1)) else (none)))) else (none)))) else (none)))) else (none)))) else (none))) else (none))) else (none)))))) = some r := h
  clear h
  replace H := Option.bind_eq_some_iff.mp H
  obtain ⟨t379, A20, H⟩ := H
  try dsimp only at H
  have A2 := Aside0.mk A20
  clear A20
  by_cases c3 : t379 = true
  · subst c3
    rw [if_pos rfl] at H
    obtain rfl := Option.some.inj H
    go_enter Try.func7, Try.ntmps7
    go_wp2_with (first | ((with_reducible refine gate_dst (N := 19) rfl ?_); refine wpList_load_row (P := Try.prog) rfl _ _ rfl gb386 ?hx _ _ _ _ BK386.out Try.underlying27 rfl (by kernel_rfl) ?_; (case hx => first | rfl | (go_simp; done))) | ((with_reducible refine gate_callee (f := 35) rfl ?_); refine goesL_ (some 13) rfl rfl Try.func35 (by kernel_rfl) rfl #[.slice A0 l0.length c0] rfl (by (try simp only [List.map_toArray, List.map_cons, List.map_nil]); first | done | rfl | (simp only [List.length_drop, List.length_take]; rfl)) ?_; (with_reducible refine (laws_big.calls _ _ l0 true _ ?side1 ?side2 A2.out).mono ?_); (case side1 => repeat (first | exact HR0.out | (with_reducible refine Kd.Ca ?_ _) | (with_reducible refine Kd.Cn ?_ _) | (with_reducible refine Kd.Cd ?_))); (case side2 => exact HC0.out); rintro e w' ⟨rfl, ⟨nd, rfl⟩⟩; refine ⟨_, rfl, ?_⟩))
    go_ret
    exact ⟨by first | rfl | (simp [errW_none, errW_some] <;> rfl) | (simp [*, errW_none, errW_some] <;> rfl), by repeat (first | (with_reducible first | exact HB.out | apply wa | apply wN | apply wd) | exact HB.out)⟩
  replace c3 := Bool.eq_false_iff.mpr c3
  subst c3
  rw [if_neg (show ¬ (false = true) by decide)] at H
  replace H := Option.bind_eq_some_iff.mp H
  obtain ⟨⟨t380, t381, t382, t383⟩, A40, H⟩ := H
  try dsimp only at H
  have A4 := Aside0.mk A40
  clear A40
  obtain ⟨y387, hy387⟩ : ∃ y_ : List (S84), y_ = (([] : List (S84))) := ⟨_, rfl⟩
  replace H : (if y387.length + t383.length < 4398046511104 then ((impl_RobotsOk.f k t380 t381 t382 (y387 ++ t383)).bind fun t393 => (if t393 = true then ((some (([] : List (S84)) : List (S84))).bind fun y394 => (if y394.length + t383.length < 4398046511104 then ((impl_HeldBy.f k (y394 ++ t383) true).bind fun t400 => ((some (([] : List (S84)) : List (S84))).bind fun y403 => (if y403.length + t383.length < 4398046511104 then ((impl_HeldBy.f k (y403 ++ t383) false).bind fun t409 => ((some (([] : List (S84)) : List (S84))).bind fun y412 => (if y412.length + t383.length < 4398046511104 then ((impl_UnderWay.f k (y412 ++ t383) true).bind fun t418 => ((some (([] : List (S84)) : List (S84))).bind fun y421 => (if y421.length + t383.length < 4398046511104 then ((impl_UnderWay.f k (y421 ++ t383) false).bind fun t427 => ((some (([] : List (S84)) : List (S84))).bind fun y430 => (if y430.length + t383.length < 4398046511104 then ((impl_IdleCells.f k (y430 ++ t383)).bind fun t436 => (laws_FnTeams.l0 k t383 t400 t409 (wrap64 ((t418.length : Int) + (t427.length : Int))) t436 0 t380 t381 t382)) else (none)))) else (none)))) else (none)))) else (none)))) else (none))) else (none))) else (none)) = some r := by first | (rw [hy387]; with_reducible exact H) | (have H2_ := (Option.bind_some _ _).symm.trans H; rw [hy387]; with_reducible exact H2_) | (have H2_ := (Option.bind_some _ _).symm.trans H; with_reducible exact H2_) | with_reducible exact H | (rw [hy387]; exact H) | exact H
  have Ny387 := Aside0.mk hy387
  clear hy387
  by_cases c5 : y387.length + t383.length < 4398046511104
  rotate_left
  · rw [if_neg c5] at H
    exact absurd H (by simp)
  rw [if_pos c5] at H
  have LMc5 := Aside0.mk c5
  clear c5
  obtain ⟨y390, hy390⟩ : ∃ y_ : List (S84), y_ = (y387 ++ t383) := ⟨_, rfl⟩
  replace H : ((impl_RobotsOk.f k t380 t381 t382 y390).bind fun t393 => (if t393 = true then ((some (([] : List (S84)) : List (S84))).bind fun y394 => (if y394.length + t383.length < 4398046511104 then ((impl_HeldBy.f k (y394 ++ t383) true).bind fun t400 => ((some (([] : List (S84)) : List (S84))).bind fun y403 => (if y403.length + t383.length < 4398046511104 then ((impl_HeldBy.f k (y403 ++ t383) false).bind fun t409 => ((some (([] : List (S84)) : List (S84))).bind fun y412 => (if y412.length + t383.length < 4398046511104 then ((impl_UnderWay.f k (y412 ++ t383) true).bind fun t418 => ((some (([] : List (S84)) : List (S84))).bind fun y421 => (if y421.length + t383.length < 4398046511104 then ((impl_UnderWay.f k (y421 ++ t383) false).bind fun t427 => ((some (([] : List (S84)) : List (S84))).bind fun y430 => (if y430.length + t383.length < 4398046511104 then ((impl_IdleCells.f k (y430 ++ t383)).bind fun t436 => (laws_FnTeams.l0 k t383 t400 t409 (wrap64 ((t418.length : Int) + (t427.length : Int))) t436 0 t380 t381 t382)) else (none)))) else (none)))) else (none)))) else (none)))) else (none))) else (none))) = some r := by first | (rw [hy390]; with_reducible exact H) | (have H2_ := (Option.bind_some _ _).symm.trans H; rw [hy390]; with_reducible exact H2_) | (have H2_ := (Option.bind_some _ _).symm.trans H; with_reducible exact H2_) | with_reducible exact H | (rw [hy390]; exact H) | exact H
  have Ny390 := Aside0.mk hy390
  clear hy390
  replace H := Option.bind_eq_some_iff.mp H
  obtain ⟨t393, A60, H⟩ := H
  try dsimp only at H
  have A6 := Aside0.mk A60
  clear A60
  by_cases c7 : t393 = true
  rotate_left
  · replace c7 := Bool.eq_false_iff.mpr c7
    subst c7
    rw [if_neg (show ¬ (false = true) by decide)] at H
    exact absurd H (by simp)
  subst c7
  rw [if_pos rfl] at H
  obtain ⟨y394, hy394⟩ : ∃ y_ : List (S84), y_ = (([] : List (S84))) := ⟨_, rfl⟩
  replace H : (if y394.length + t383.length < 4398046511104 then ((impl_HeldBy.f k (y394 ++ t383) true).bind fun t400 => ((some (([] : List (S84)) : List (S84))).bind fun y403 => (if y403.length + t383.length < 4398046511104 then ((impl_HeldBy.f k (y403 ++ t383) false).bind fun t409 => ((some (([] : List (S84)) : List (S84))).bind fun y412 => (if y412.length + t383.length < 4398046511104 then ((impl_UnderWay.f k (y412 ++ t383) true).bind fun t418 => ((some (([] : List (S84)) : List (S84))).bind fun y421 => (if y421.length + t383.length < 4398046511104 then ((impl_UnderWay.f k (y421 ++ t383) false).bind fun t427 => ((some (([] : List (S84)) : List (S84))).bind fun y430 => (if y430.length + t383.length < 4398046511104 then ((impl_IdleCells.f k (y430 ++ t383)).bind fun t436 => (laws_FnTeams.l0 k t383 t400 t409 (wrap64 ((t418.length : Int) + (t427.length : Int))) t436 0 t380 t381 t382)) else (none)))) else (none)))) else (none)))) else (none)))) else (none)) = some r := by first | (rw [hy394]; with_reducible exact H) | (have H2_ := (Option.bind_some _ _).symm.trans H; rw [hy394]; with_reducible exact H2_) | (have H2_ := (Option.bind_some _ _).symm.trans H; with_reducible exact H2_) | with_reducible exact H | (rw [hy394]; exact H) | exact H
  have Ny394 := Aside0.mk hy394
  clear hy394
  by_cases c8 : y394.length + t383.length < 4398046511104
  rotate_left
  · rw [if_neg c8] at H
    exact absurd H (by simp)
  rw [if_pos c8] at H
  have LMc8 := Aside0.mk c8
  clear c8
  obtain ⟨y397, hy397⟩ : ∃ y_ : List (S84), y_ = (y394 ++ t383) := ⟨_, rfl⟩
  replace H : ((impl_HeldBy.f k y397 true).bind fun t400 => ((some (([] : List (S84)) : List (S84))).bind fun y403 => (if y403.length + t383.length < 4398046511104 then ((impl_HeldBy.f k (y403 ++ t383) false).bind fun t409 => ((some (([] : List (S84)) : List (S84))).bind fun y412 => (if y412.length + t383.length < 4398046511104 then ((impl_UnderWay.f k (y412 ++ t383) true).bind fun t418 => ((some (([] : List (S84)) : List (S84))).bind fun y421 => (if y421.length + t383.length < 4398046511104 then ((impl_UnderWay.f k (y421 ++ t383) false).bind fun t427 => ((some (([] : List (S84)) : List (S84))).bind fun y430 => (if y430.length + t383.length < 4398046511104 then ((impl_IdleCells.f k (y430 ++ t383)).bind fun t436 => (laws_FnTeams.l0 k t383 t400 t409 (wrap64 ((t418.length : Int) + (t427.length : Int))) t436 0 t380 t381 t382)) else (none)))) else (none)))) else (none)))) else (none)))) = some r := by first | (rw [hy397]; with_reducible exact H) | (have H2_ := (Option.bind_some _ _).symm.trans H; rw [hy397]; with_reducible exact H2_) | (have H2_ := (Option.bind_some _ _).symm.trans H; with_reducible exact H2_) | with_reducible exact H | (rw [hy397]; exact H) | exact H
  have Ny397 := Aside0.mk hy397
  clear hy397
  replace H := Option.bind_eq_some_iff.mp H
  obtain ⟨t400, A90, H⟩ := H
  try dsimp only at H
  have A9 := Aside0.mk A90
  clear A90
  obtain ⟨y403, hy403⟩ : ∃ y_ : List (S84), y_ = (([] : List (S84))) := ⟨_, rfl⟩
  replace H : (if y403.length + t383.length < 4398046511104 then ((impl_HeldBy.f k (y403 ++ t383) false).bind fun t409 => ((some (([] : List (S84)) : List (S84))).bind fun y412 => (if y412.length + t383.length < 4398046511104 then ((impl_UnderWay.f k (y412 ++ t383) true).bind fun t418 => ((some (([] : List (S84)) : List (S84))).bind fun y421 => (if y421.length + t383.length < 4398046511104 then ((impl_UnderWay.f k (y421 ++ t383) false).bind fun t427 => ((some (([] : List (S84)) : List (S84))).bind fun y430 => (if y430.length + t383.length < 4398046511104 then ((impl_IdleCells.f k (y430 ++ t383)).bind fun t436 => (laws_FnTeams.l0 k t383 t400 t409 (wrap64 ((t418.length : Int) + (t427.length : Int))) t436 0 t380 t381 t382)) else (none)))) else (none)))) else (none)))) else (none)) = some r := by first | (rw [hy403]; with_reducible exact H) | (have H2_ := (Option.bind_some _ _).symm.trans H; rw [hy403]; with_reducible exact H2_) | (have H2_ := (Option.bind_some _ _).symm.trans H; with_reducible exact H2_) | with_reducible exact H | (rw [hy403]; exact H) | exact H
  have Ny403 := Aside0.mk hy403
  clear hy403
  by_cases c10 : y403.length + t383.length < 4398046511104
  rotate_left
  · rw [if_neg c10] at H
    exact absurd H (by simp)
  rw [if_pos c10] at H
  have LMc10 := Aside0.mk c10
  clear c10
  obtain ⟨y406, hy406⟩ : ∃ y_ : List (S84), y_ = (y403 ++ t383) := ⟨_, rfl⟩
  replace H : ((impl_HeldBy.f k y406 false).bind fun t409 => ((some (([] : List (S84)) : List (S84))).bind fun y412 => (if y412.length + t383.length < 4398046511104 then ((impl_UnderWay.f k (y412 ++ t383) true).bind fun t418 => ((some (([] : List (S84)) : List (S84))).bind fun y421 => (if y421.length + t383.length < 4398046511104 then ((impl_UnderWay.f k (y421 ++ t383) false).bind fun t427 => ((some (([] : List (S84)) : List (S84))).bind fun y430 => (if y430.length + t383.length < 4398046511104 then ((impl_IdleCells.f k (y430 ++ t383)).bind fun t436 => (laws_FnTeams.l0 k t383 t400 t409 (wrap64 ((t418.length : Int) + (t427.length : Int))) t436 0 t380 t381 t382)) else (none)))) else (none)))) else (none)))) = some r := by first | (rw [hy406]; with_reducible exact H) | (have H2_ := (Option.bind_some _ _).symm.trans H; rw [hy406]; with_reducible exact H2_) | (have H2_ := (Option.bind_some _ _).symm.trans H; with_reducible exact H2_) | with_reducible exact H | (rw [hy406]; exact H) | exact H
  have Ny406 := Aside0.mk hy406
  clear hy406
  replace H := Option.bind_eq_some_iff.mp H
  obtain ⟨t409, A110, H⟩ := H
  try dsimp only at H
  have A11 := Aside0.mk A110
  clear A110
  obtain ⟨y412, hy412⟩ : ∃ y_ : List (S84), y_ = (([] : List (S84))) := ⟨_, rfl⟩
  replace H : (if y412.length + t383.length < 4398046511104 then ((impl_UnderWay.f k (y412 ++ t383) true).bind fun t418 => ((some (([] : List (S84)) : List (S84))).bind fun y421 => (if y421.length + t383.length < 4398046511104 then ((impl_UnderWay.f k (y421 ++ t383) false).bind fun t427 => ((some (([] : List (S84)) : List (S84))).bind fun y430 => (if y430.length + t383.length < 4398046511104 then ((impl_IdleCells.f k (y430 ++ t383)).bind fun t436 => (laws_FnTeams.l0 k t383 t400 t409 (wrap64 ((t418.length : Int) + (t427.length : Int))) t436 0 t380 t381 t382)) else (none)))) else (none)))) else (none)) = some r := by first | (rw [hy412]; with_reducible exact H) | (have H2_ := (Option.bind_some _ _).symm.trans H; rw [hy412]; with_reducible exact H2_) | (have H2_ := (Option.bind_some _ _).symm.trans H; with_reducible exact H2_) | with_reducible exact H | (rw [hy412]; exact H) | exact H
  have Ny412 := Aside0.mk hy412
  clear hy412
  by_cases c12 : y412.length + t383.length < 4398046511104
  rotate_left
  · rw [if_neg c12] at H
    exact absurd H (by simp)
  rw [if_pos c12] at H
  have LMc12 := Aside0.mk c12
  clear c12
  obtain ⟨y415, hy415⟩ : ∃ y_ : List (S84), y_ = (y412 ++ t383) := ⟨_, rfl⟩
  replace H : ((impl_UnderWay.f k y415 true).bind fun t418 => ((some (([] : List (S84)) : List (S84))).bind fun y421 => (if y421.length + t383.length < 4398046511104 then ((impl_UnderWay.f k (y421 ++ t383) false).bind fun t427 => ((some (([] : List (S84)) : List (S84))).bind fun y430 => (if y430.length + t383.length < 4398046511104 then ((impl_IdleCells.f k (y430 ++ t383)).bind fun t436 => (laws_FnTeams.l0 k t383 t400 t409 (wrap64 ((t418.length : Int) + (t427.length : Int))) t436 0 t380 t381 t382)) else (none)))) else (none)))) = some r := by first | (rw [hy415]; with_reducible exact H) | (have H2_ := (Option.bind_some _ _).symm.trans H; rw [hy415]; with_reducible exact H2_) | (have H2_ := (Option.bind_some _ _).symm.trans H; with_reducible exact H2_) | with_reducible exact H | (rw [hy415]; exact H) | exact H
  have Ny415 := Aside0.mk hy415
  clear hy415
  replace H := Option.bind_eq_some_iff.mp H
  obtain ⟨t418, A130, H⟩ := H
  try dsimp only at H
  have A13 := Aside0.mk A130
  clear A130
  obtain ⟨y421, hy421⟩ : ∃ y_ : List (S84), y_ = (([] : List (S84))) := ⟨_, rfl⟩
  replace H : (if y421.length + t383.length < 4398046511104 then ((impl_UnderWay.f k (y421 ++ t383) false).bind fun t427 => ((some (([] : List (S84)) : List (S84))).bind fun y430 => (if y430.length + t383.length < 4398046511104 then ((impl_IdleCells.f k (y430 ++ t383)).bind fun t436 => (laws_FnTeams.l0 k t383 t400 t409 (wrap64 ((t418.length : Int) + (t427.length : Int))) t436 0 t380 t381 t382)) else (none)))) else (none)) = some r := by first | (rw [hy421]; with_reducible exact H) | (have H2_ := (Option.bind_some _ _).symm.trans H; rw [hy421]; with_reducible exact H2_) | (have H2_ := (Option.bind_some _ _).symm.trans H; with_reducible exact H2_) | with_reducible exact H | (rw [hy421]; exact H) | exact H
  have Ny421 := Aside0.mk hy421
  clear hy421
  by_cases c14 : y421.length + t383.length < 4398046511104
  rotate_left
  · rw [if_neg c14] at H
    exact absurd H (by simp)
  rw [if_pos c14] at H
  have LMc14 := Aside0.mk c14
  clear c14
  obtain ⟨y424, hy424⟩ : ∃ y_ : List (S84), y_ = (y421 ++ t383) := ⟨_, rfl⟩
  replace H : ((impl_UnderWay.f k y424 false).bind fun t427 => ((some (([] : List (S84)) : List (S84))).bind fun y430 => (if y430.length + t383.length < 4398046511104 then ((impl_IdleCells.f k (y430 ++ t383)).bind fun t436 => (laws_FnTeams.l0 k t383 t400 t409 (wrap64 ((t418.length : Int) + (t427.length : Int))) t436 0 t380 t381 t382)) else (none)))) = some r := by first | (rw [hy424]; with_reducible exact H) | (have H2_ := (Option.bind_some _ _).symm.trans H; rw [hy424]; with_reducible exact H2_) | (have H2_ := (Option.bind_some _ _).symm.trans H; with_reducible exact H2_) | with_reducible exact H | (rw [hy424]; exact H) | exact H
  have Ny424 := Aside0.mk hy424
  clear hy424
  replace H := Option.bind_eq_some_iff.mp H
  obtain ⟨t427, A150, H⟩ := H
  try dsimp only at H
  have A15 := Aside0.mk A150
  clear A150
  obtain ⟨y430, hy430⟩ : ∃ y_ : List (S84), y_ = (([] : List (S84))) := ⟨_, rfl⟩
  replace H : (if y430.length + t383.length < 4398046511104 then ((impl_IdleCells.f k (y430 ++ t383)).bind fun t436 => (laws_FnTeams.l0 k t383 t400 t409 (wrap64 ((t418.length : Int) + (t427.length : Int))) t436 0 t380 t381 t382)) else (none)) = some r := by first | (rw [hy430]; with_reducible exact H) | (have H2_ := (Option.bind_some _ _).symm.trans H; rw [hy430]; with_reducible exact H2_) | (have H2_ := (Option.bind_some _ _).symm.trans H; with_reducible exact H2_) | with_reducible exact H | (rw [hy430]; exact H) | exact H
  have Ny430 := Aside0.mk hy430
  clear hy430
  by_cases c16 : y430.length + t383.length < 4398046511104
  rotate_left
  · rw [if_neg c16] at H
    exact absurd H (by simp)
  rw [if_pos c16] at H
  have LMc16 := Aside0.mk c16
  clear c16
  obtain ⟨y433, hy433⟩ : ∃ y_ : List (S84), y_ = (y430 ++ t383) := ⟨_, rfl⟩
  replace H : ((impl_IdleCells.f k y433).bind fun t436 => (laws_FnTeams.l0 k t383 t400 t409 (wrap64 ((t418.length : Int) + (t427.length : Int))) t436 0 t380 t381 t382)) = some r := by first | (rw [hy433]; with_reducible exact H) | (have H2_ := (Option.bind_some _ _).symm.trans H; rw [hy433]; with_reducible exact H2_) | (have H2_ := (Option.bind_some _ _).symm.trans H; with_reducible exact H2_) | with_reducible exact H | (rw [hy433]; exact H) | exact H
  have Ny433 := Aside0.mk hy433
  clear hy433
  replace H := Option.bind_eq_some_iff.mp H
  obtain ⟨t436, A170, H⟩ := H
  try dsimp only at H
  have A17 := Aside0.mk A170
  clear A170
  have H' := Aside0.mk H
  clear H
  go_enter Try.func7, Try.ntmps7
  try go_wp2_with (first | ((with_reducible refine gate_dst (N := 19) rfl ?_); refine wpList_load_row (P := Try.prog) rfl _ _ rfl gb386 ?hx _ _ _ _ BK386.out Try.underlying27 rfl (by kernel_rfl) ?_; (case hx => first | rfl | (go_simp; done))) | ((with_reducible refine gate_callee (f := 35) rfl ?_); refine goesL_ (some 13) rfl rfl Try.func35 (by kernel_rfl) rfl #[.slice A0 l0.length c0] rfl (by (try simp only [List.map_toArray, List.map_cons, List.map_nil]); first | done | rfl | (simp only [List.length_drop, List.length_take]; rfl)) ?_; (with_reducible refine (laws_big.calls _ _ l0 false _ ?side1 ?side2 A2.out).mono ?_); (case side1 => repeat (first | exact HR0.out | (with_reducible refine Kd.Ca ?_ _) | (with_reducible refine Kd.Cn ?_ _) | (with_reducible refine Kd.Cd ?_))); (case side2 => exact HC0.out); rintro e w' ⟨rfl, ⟨nd, rfl⟩⟩; refine ⟨_, rfl, ?_⟩) | ((with_reducible refine gate_callee (f := 36) rfl ?_); refine goesL_ (some 16) rfl rfl Try.func36 (by kernel_rfl) rfl #[.slice A0 l0.length c0] rfl (by (try simp only [List.map_toArray, List.map_cons, List.map_nil]); first | done | rfl | (simp only [List.length_drop, List.length_take]; rfl)) ?_; (with_reducible refine (spec_DrawTeam.calls k _ _ l0 t380 t381 t382 t383 _ ?side1 ?side2 A4.out).mono ?_); (case side1 => repeat (first | exact HR0.out | (with_reducible refine Kd.Ca ?_ _) | (with_reducible refine Kd.Cn ?_ _) | (with_reducible refine Kd.Cd ?_))); (case side2 => exact HC0.out); rintro e w18 ⟨v384, rfl, ho0, hb⟩; refine ⟨_, rfl, ?_⟩; have n0_ := Aside0.mk (Kd.R_lower ho0 (below_size (by repeat (first | (with_reducible first | exact HB.out | apply wa | apply wN | apply wd) | exact HB.out)))); have n1_ := Aside0.mk (below_step (by repeat (first | (with_reducible first | exact HB.out | apply wa | apply wN | apply wd) | exact HB.out)) hb); clear HB; have HO385 := n0_; have HB := n1_; clear n0_ n1_; (try clear hb); (try clear hb2); (try clear hk); (try clear hi); (try clear ho0)) | ((with_reducible refine gate_dst (N := 3) rfl ?_); refine box_event ?hg (N := 3) ?hd (cs := #[.int .i64 0, .int .i64 0, .string (⟨#[]⟩ : ByteArray)]) (t := 27) ?hr ?_; (case hd => rfl); (case hg => rfl); (case hr => first | (go_simp; done) | (go_simp; rfl)); intro gb386 hg w19 hbox hb; have n0_ := Aside0.mk (Kd.Rb (by (with_reducible repeat (first | apply Kd.Ra | apply Kd.Rn | apply Kd.Rd)); exact HO385.out) hb); have n1_ := Aside0.mk (below_step (by repeat (first | (with_reducible first | exact HB.out | apply wa | apply wN | apply wd) | exact HB.out)) hb); have n2_ := Aside0.mk (hbox); have n3_ := Aside0.mk ((by rw [hg]; exact (below_size (by repeat (first | (with_reducible first | exact HB.out | apply wa | apply wN | apply wd) | exact HB.out))) : w.heap.size ≤ gb386)); have n4_ := n3_; clear HO385; clear HB; have HO385 := n0_; have HB := n1_; have BK386 := n2_; have GW386 := n3_; have GE386 := n4_; clear n0_ n1_ n2_ n3_ n4_; clear hb hbox hg) | ((with_reducible refine gate_store (t := 27) (p := 3) rfl ?_); refine store_event (t := 27) (p := 3) (v := ?vo_w21) (w1 := (((w19.setCell ⟨gb386, 0, none⟩ (.int .i64 t380)).setCell ⟨gb386, 1, none⟩ (.int .i64 t381)).setCell ⟨gb386, 2, none⟩ (.string t382))) ?hg ?ho ?hn ?hr ?_; (case ho => rfl); (case hg => rfl); (case hn => rfl); (case hr => exact Go.Proofs.Ytfinjkjnoobbjaa.MyHof.exec_store_run [.int .i64 t380, .int .i64 t381, .string t382] rfl rfl rfl BK386.out rfl (by kernel_rfl) (by simp) rfl rfl); intro w21 hw; have n0_ : Aside0 (Kd.R k84 84 w21 w.heap.size (fun _ => True) v384 t383) := ⟨(by rw [hw]; exact (by (with_reducible repeat (first | apply Kd.Ra | apply Kd.Rn | apply Kd.Rd)); exact Kd.R_mono (Kd.Rf (p := ⟨gb386, 2, none⟩) (Kd.Rf (p := ⟨gb386, 1, none⟩) (Kd.Rf (p := ⟨gb386, 0, none⟩) (Kd.R_types HO385.out BK386.out (by decide)) (fun _ hk => hk.2) (.int .i64 t380)) (fun _ hk => hk.2) (.int .i64 t381)) (fun _ hk => hk.2) (.string t382)) (fun _ hk => trivial)))⟩; have n1_ : Aside0 (w21.heap[gb386]? = some (.cells #[.int .i64 t380, .int .i64 t381, .string t382] 27 (0, 0))) := ⟨(by rw [hw]; exact (by (with_reducible repeat first | apply bN | apply bd | apply ba); refine blk_put (cs := #[.int .i64 t380, .int .i64 t381, .string (⟨#[]⟩ : ByteArray)]) ?_ 2 _ rfl; (with_reducible repeat first | apply bN | apply bd | apply ba); refine blk_put (cs := #[.int .i64 t380, .int .i64 0, .string (⟨#[]⟩ : ByteArray)]) ?_ 1 _ rfl; (with_reducible repeat first | apply bN | apply bd | apply ba); refine blk_put (cs := #[.int .i64 0, .int .i64 0, .string (⟨#[]⟩ : ByteArray)]) ?_ 0 _ rfl; (with_reducible repeat first | apply bN | apply bd | apply ba); exact BK386.out))⟩; have n2_ : Aside0 (Below w.heap.size w w21) := ⟨(by rw [hw]; exact (by repeat (first | (with_reducible first | exact HB.out | apply wa | apply wN | apply wd | refine ws ?_ GE386.out) | exact HB.out)))⟩; clear hw; clear HO385; clear BK386; clear HB; have HO385 := n0_; have BK386 := n1_; have HB := n2_; clear n0_ n1_ n2_))
  have n0_ := Aside0.mk (Kd.Rd HO385.out)
  have n1_ := Aside0.mk (bd BK386.out)
  have n2_ := Aside0.mk (wd HB.out)
  clear HO385
  clear BK386
  clear HB
  have HO385 := n0_
  have BK386 := n1_
  have HB := n2_
  clear n0_ n1_ n2_
  refine start_ (n := 6) (S := fun w' => w'.heap[gb386]? = some (.cells #[.int .i64 t380, .int .i64 t381, .string t382] 27 (0, 0))) (ds := []) #[false, false, false, false, false, false] (by kernel_rfl) rfl rfl BK386.out (fun hHeld => ?_)
  generalize w21.drew = w22 at HO385 BK386 HB hHeld ⊢
  refine pure_ (i := 2) (N := some 21) (v := ?_) (a' := ?_) #[false, false, true, false, false, false] rfl rfl (by kernel_rfl) (fun _ _ _ h => h) (Or.inl ⟨by rfl, ?_⟩) ?_ ?_
  rotate_left
  · intro w'
    go_simp
    with_reducible rfl
  rotate_left
  · simp only [Act.put, List.setIfInBounds_toArray, List.set_cons_zero, List.set_cons_succ, i64_w, i32_w]
    rfl
  refine take_ (i := 0) (N := some 19) (v := .agg #[.int .i64 t380, .int .i64 t381, .string t382]) (a' := ?_) #[true, false, true, false, false, false] rfl rfl (by kernel_rfl) (fun _ _ _ h => h) (Or.inl ⟨by rfl, ?_⟩) hHeld ?_ ?_
  · rintro w' s0
    exact Go.Proofs.Ytfinjkjnoobbjaa.MyHof.exec_load_row (ty := 27) (x := Operand.tmp 3) (by rfl) (by first | rfl | (go_simp; done)) s0 Try.underlying27 rfl (by kernel_rfl)
  rotate_left
  · simp only [Act.put, List.setIfInBounds_toArray, List.set_cons_zero, List.set_cons_succ, i64_w, i32_w]
    rfl
  refine one_ (i := 1) (N := some 20) #[true, true, true, false, false, false] rfl rfl (by kernel_rfl) (by decide) (fun K hK => ?_)
  refine Kd.R_lit_step k84 _ 84 ?hg (N := 20) ?hd (xs := ([] : List (S84))) (inner := []) (ok := fun _ => True) (okp := fun _ => True) ?hr ?hp (fun _ hk => hk) trivial (Below.refl _ _) (Nat.le_refl _) (by simp) ?_; (case hd => rfl); (case hg => rfl); (case hr => first | (go_simp; done) | (go_simp; rfl)); (case hp => exact (Reps.none _ _))
  intro v388 w23 ho24 hb hg_ hnew_
  clear hg_ hnew_
  (first | rw [← Ny387.out] at ho24 | (simp only [Int.reduceToNat] at ho24; rw [← Ny387.out] at ho24))
  have n0_ := Aside0.mk (Kd.R_elder' (by (with_reducible repeat (first | apply Kd.Ra | apply Kd.Rn | apply Kd.Rd)); exact HO385.out) (Kd.R_base ho24) hb)
  have n1_ := Aside0.mk (Kd.R_lower (Kd.R_new' ho24 (Kd.R_lt (by (with_reducible repeat (first | apply Kd.Ra | apply Kd.Rn | apply Kd.Rd)); exact HO385.out))) (below_size (by repeat (first | (with_reducible first | exact HB.out | apply wa | apply wN | apply wd | refine ws ?_ GE386.out) | exact HB.out))))
  have n2_ := Aside0.mk (bb (g := gb386) (by first | (with_reducible exact BK386.out) | (with_reducible exact bN BK386.out _) | (with_reducible exact bd BK386.out) | ((with_reducible repeat first | apply bN | apply bd | apply ba); exact BK386.out)) hb)
  have n3_ := Aside0.mk (below_step (by repeat (first | (with_reducible first | exact HB.out | apply wa | apply wN | apply wd | refine ws ?_ GE386.out) | exact HB.out)) hb)
  clear HO385
  clear BK386
  clear HB
  have HO385 := n0_
  have HO389 := n1_
  have BK386 := n2_
  have HB := n3_
  clear n0_ n1_ n2_ n3_
  clear hb ho24
  obtain ⟨Ao26, co26, eo26⟩ := Kd.R_slice HO385.out
  (first | subst eo26 | (injection eo26 with f1_ f2_ f3_; have f4_ := f1_.symm; have f5_ := f3_.symm; clear f1_ f2_ f3_; subst f4_; subst f5_))
  refine hK.out _ _ BK386.out (fun hHeld => ?_)
  clear hK K
  refine norm_ (a' := ?_) ?_ ?_
  rotate_left
  · show Act.put _ (some 20) _ = _
    simp only [Act.put, List.setIfInBounds_toArray, List.set_cons_zero, List.set_cons_succ, i64_w, i32_w]
    rfl
  refine one_ (i := 3) (N := some 22) #[true, true, true, true, false, false] rfl rfl (by kernel_rfl) (by decide) (fun K hK => ?_)
  refine Kd.R_append_rows_step k84 (w0 := w) w.heap.size (by rfl) (.tmp 20) (.tmp 21) 30 84 (.agg #[(.int .i64 0), (.int .i64 0), (.int .i64 0), (.bool false)]) 32 rfl Try.underlying30 info84 rfl (by decide) (by omega) v388 y387 t383 _ _ _ (fun k_ => some k_ ≠ (.slice Ao26 t383.length co26 : Value).ownBlock) (fun _ => False) rfl rfl ?aO ?aR (fun _ _ h => h) (fun _ h => h.elim) ?aF ?aB ?aS ?aL ?_
  (case aR => repeat (first | exact (Kd.R_reads' HO385.out).2.2 | (with_reducible refine Kd.Ca ?_ _) | (with_reducible refine Kd.Cn ?_ _) | (with_reducible refine Kd.Cd ?_)))
  (case aB => exact (by repeat (first | (with_reducible first | exact HB.out | apply wa | apply wN | apply wd | refine ws ?_ GE386.out) | exact HB.out)))
  (case aF => exact (fun k_ hk => Kd.fresh' (Kd.R_lt (by (with_reducible repeat (first | apply Kd.Ra | apply Kd.Rn | apply Kd.Rd)); exact HO385.out)) k_ hk))
  (case aO => exact (by (with_reducible repeat (first | apply Kd.Ra | apply Kd.Rn | apply Kd.Rd)); exact Kd.R_mono HO389.out (fun _ hk => hk.2)))
  (case aS => exact (below_size (by repeat (first | (with_reducible first | exact HB.out | apply wa | apply wN | apply wd | refine ws ?_ GE386.out) | exact HB.out))))
  (case aL => have := LMc5.out; omega)
  intro v391 w25 ho hb hg hat
  rw [← Ny390.out] at ho
  have n0_ := Aside0.mk (Kd.R_after (ok := (fun _ => True)) (by (with_reducible repeat (first | apply Kd.Ra | apply Kd.Rn | apply Kd.Rd)); exact HO385.out) hg hat)
  have n1_ := Aside0.mk (blk_grown (g := gb386) (by (with_reducible repeat first | apply bN | apply bd | apply ba); exact BK386.out) hg (Kd.R_ne HO389.out BK386.out (by decide)))
  have n2_ := Aside0.mk (hb)
  have n3_ := Aside0.mk (ho)
  clear HO385
  clear BK386
  clear HB
  clear HO389
  have HO385 := n0_
  have BK386 := n1_
  have HB := n2_
  have HO392 := n3_
  clear n0_ n1_ n2_ n3_
  clear ho hb hg hat
  obtain ⟨Ao27, co27, eo27⟩ := Kd.R_slice HO392.out
  (first | subst eo27 | (injection eo27 with f1_ f2_ f3_; have f4_ := f1_.symm; have f5_ := f3_.symm; clear f1_ f2_ f3_; subst f4_; subst f5_))
  refine hK.out _ _ BK386.out (fun hHeld => ?_)
  clear hK K
  refine norm_ (a' := ?_) ?_ ?_
  rotate_left
  · show Act.put _ (some 22) _ = _
    simp only [Act.put, List.setIfInBounds_toArray, List.set_cons_zero, List.set_cons_succ, i64_w, i32_w]
    rfl
  refine one_ (i := 4) (N := some 23) #[true, true, true, true, true, false] rfl rfl (by kernel_rfl) (by decide) (fun K hK => ?_)
  refine goes_ Try.func37 (by kernel_rfl) rfl #[.agg #[.int .i64 t380, .int .i64 t381, .string t382], .slice Ao27 y390.length co27] (by rfl) rfl rfl (by (try simp only [List.map_toArray, List.map_cons, List.map_nil]); first | done | rfl | (simp only [List.length_drop, List.length_take]; rfl)) ?_
  with_reducible refine (impl_RobotsOk.calls k t380 t381 t382 _ _ y390 true _ ?side1 ?side2 A6.out).mono ?_
  (case side1 => repeat (first | exact (Kd.R_reads' HO392.out).2.2 | (with_reducible refine Kd.Ca ?_ _) | (with_reducible refine Kd.Cn ?_ _) | (with_reducible refine Kd.Cd ?_)))
  (case side2 => exact (Kd.R_reads' HO392.out).2.1)
  rintro e w28 ⟨rfl, hb⟩
  refine ⟨_, rfl, ?_⟩
  have n0_ := Aside0.mk (Kd.Rb (by (with_reducible repeat (first | apply Kd.Ra | apply Kd.Rn | apply Kd.Rd)); exact HO385.out) hb)
  have n1_ := Aside0.mk (Kd.Rb (by (with_reducible repeat (first | apply Kd.Ra | apply Kd.Rn | apply Kd.Rd)); exact HO392.out) hb)
  have n2_ := Aside0.mk (bb (g := gb386) (by first | (with_reducible exact BK386.out) | (with_reducible exact bN BK386.out _) | (with_reducible exact bd BK386.out) | ((with_reducible repeat first | apply bN | apply bd | apply ba); exact BK386.out)) hb)
  have n3_ := Aside0.mk (below_step (by repeat (first | (with_reducible first | exact HB.out | apply wa | apply wN | apply wd | refine ws ?_ GE386.out) | exact HB.out)) hb)
  clear HO385
  clear HO392
  clear BK386
  clear HB
  have HO385 := n0_
  have HO392 := n1_
  have BK386 := n2_
  have HB := n3_
  clear n0_ n1_ n2_ n3_
  (try clear hb)
  (try clear hb2)
  (try clear hk)
  (try clear hi)
  refine hK.out _ _ BK386.out (fun hHeld => ?_)
  clear hK K
  refine norm_ (a' := ?_) ?_ ?_
  rotate_left
  · show Act.put _ (some 23) _ = _
    simp only [Act.put, List.setIfInBounds_toArray, List.set_cons_zero, List.set_cons_succ, i64_w, i32_w]
    rfl
  refine pure_ (i := 5) (N := some 24) (v := ?_) (a' := ?_) #[true, true, true, true, true, true] rfl rfl (by kernel_rfl) (fun _ _ _ h => h) (Or.inl ⟨by rfl, ?_⟩) ?_ ?_
  rotate_left
  · intro w'
    go_simp
    with_reducible rfl
  rotate_left
  · simp only [Act.put, List.setIfInBounds_toArray, List.set_cons_zero, List.set_cons_succ, i64_w, i32_w]
    rfl
  refine done_ (by kernel_rfl) ?_
  try go_wp2_with (first | ((with_reducible refine gate_dst (N := 19) rfl ?_); refine wpList_load_row (P := Try.prog) rfl _ _ rfl gb386 ?hx _ _ _ _ BK386.out Try.underlying27 rfl (by kernel_rfl) ?_; (case hx => first | rfl | (go_simp; done))) | ((with_reducible refine gate_dst (N := 25) rfl ?_); refine Kd.R_lit k84 _ 84 ?hg (N := 25) ?hd (xs := ([] : List (S84))) (inner := []) (ok := fun _ => True) (okp := fun _ => True) ?hr ?hp (fun _ hk => hk) trivial (Below.refl _ _) (Nat.le_refl _) (by simp) ?_; (case hd => rfl); (case hg => rfl); (case hr => first | (go_simp; done) | (go_simp; rfl)); (case hp => exact (Reps.none _ _)); intro v395 w29 ho30 hb hg_ hnew_; clear hg_ hnew_; (first | rw [← Ny394.out] at ho30 | (simp only [Int.reduceToNat] at ho30; rw [← Ny394.out] at ho30)); have n0_ := Aside0.mk (Kd.R_elder' (by (with_reducible repeat (first | apply Kd.Ra | apply Kd.Rn | apply Kd.Rd)); exact HO385.out) (Kd.R_base ho30) hb); have n1_ := Aside0.mk (Kd.R_elder' (by (with_reducible repeat (first | apply Kd.Ra | apply Kd.Rn | apply Kd.Rd)); exact HO392.out) (Kd.R_base ho30) hb); have n2_ := Aside0.mk (Kd.R_lower (Kd.R_new' (Kd.R_new' ho30 (Kd.R_lt (by (with_reducible repeat (first | apply Kd.Ra | apply Kd.Rn | apply Kd.Rd)); exact HO385.out))) (Kd.R_lt (by (with_reducible repeat (first | apply Kd.Ra | apply Kd.Rn | apply Kd.Rd)); exact HO392.out))) (below_size (by repeat (first | (with_reducible first | exact HB.out | apply wa | apply wN | apply wd | refine ws ?_ GE386.out) | exact HB.out)))); have n3_ := Aside0.mk (bb (g := gb386) (by first | (with_reducible exact BK386.out) | (with_reducible exact bN BK386.out _) | (with_reducible exact bd BK386.out) | ((with_reducible repeat first | apply bN | apply bd | apply ba); exact BK386.out)) hb); have n4_ := Aside0.mk (below_step (by repeat (first | (with_reducible first | exact HB.out | apply wa | apply wN | apply wd | refine ws ?_ GE386.out) | exact HB.out)) hb); clear HO385; clear HO392; clear BK386; clear HB; have HO385 := n0_; have HO392 := n1_; have HO396 := n2_; have BK386 := n3_; have HB := n4_; clear n0_ n1_ n2_ n3_ n4_; clear hb ho30) | ((with_reducible refine gate_builtin (b := .append) (xs := #[.tmp 25, .tmp 26]) rfl ?_); at_builtin; refine Kd.R_append_rows k84 (w0 := w) w.heap.size rfl (.tmp 25) (.tmp 26) 30 84 (.agg #[(.int .i64 0), (.int .i64 0), (.int .i64 0), (.bool false)]) 32 rfl Try.underlying30 info84 rfl (by decide) (by omega) v395 y394 t383 _ _ _ (fun k_ => some k_ ≠ (.slice Ao26 t383.length co26 : Value).ownBlock ∧ some k_ ≠ (.slice Ao27 y390.length co27 : Value).ownBlock) (fun _ => False) rfl rfl ?aO ?aR (fun _ _ h => h) (fun _ h => h.elim) ?aF ?aB ?aS ?aL ?_; (case aR => repeat (first | exact (Kd.R_reads' HO385.out).2.2 | (with_reducible refine Kd.Ca ?_ _) | (with_reducible refine Kd.Cn ?_ _) | (with_reducible refine Kd.Cd ?_))); (case aB => exact (by repeat (first | (with_reducible first | exact HB.out | apply wa | apply wN | apply wd | refine ws ?_ GE386.out) | exact HB.out))); (case aF => exact (fun k_ hk => ⟨Kd.fresh' (Kd.R_lt (by (with_reducible repeat (first | apply Kd.Ra | apply Kd.Rn | apply Kd.Rd)); exact HO385.out)) k_ hk, Kd.fresh' (Kd.R_lt (by (with_reducible repeat (first | apply Kd.Ra | apply Kd.Rn | apply Kd.Rd)); exact HO392.out)) k_ hk⟩)); (case aO => exact (by (with_reducible repeat (first | apply Kd.Ra | apply Kd.Rn | apply Kd.Rd)); exact Kd.R_mono HO396.out (fun _ hk => ⟨hk.1.2, hk.2⟩))); (case aS => exact (below_size (by repeat (first | (with_reducible first | exact HB.out | apply wa | apply wN | apply wd | refine ws ?_ GE386.out) | exact HB.out)))); (case aL => have := LMc8.out; omega); intro v398 w31 ho hb hg hat; rw [← Ny397.out] at ho; have n0_ := Aside0.mk (Kd.R_after (ok := (fun k_ => some k_ ≠ (.slice Ao27 y390.length co27 : Value).ownBlock)) (by (with_reducible repeat (first | apply Kd.Ra | apply Kd.Rn | apply Kd.Rd)); exact Kd.R_mono HO385.out (fun _ hk => ⟨hk.1.2, hk.2⟩)) hg hat); have n1_ := Aside0.mk (blk_grown (g := gb386) (by (with_reducible repeat first | apply bN | apply bd | apply ba); exact BK386.out) hg (Kd.R_ne HO396.out BK386.out (by decide))); have n2_ := Aside0.mk (Kd.R_after (ok := (fun k_ => some k_ ≠ (.slice Ao26 t383.length co26 : Value).ownBlock)) (by (with_reducible repeat (first | apply Kd.Ra | apply Kd.Rn | apply Kd.Rd)); exact HO392.out) hg hat); have n3_ := Aside0.mk (hb); have n4_ := Aside0.mk (ho); clear HO385; clear BK386; clear HO392; clear HB; clear HO396; have HO385 := n0_; have BK386 := n1_; have HO392 := n2_; have HB := n3_; have HO399 := n4_; clear n0_ n1_ n2_ n3_ n4_; clear ho hb hg hat; obtain ⟨Ao32, co32, eo32⟩ := Kd.R_slice HO399.out; subst eo32) | ((with_reducible refine gate_callee (f := 38) rfl ?_); refine goesL_ (some 28) rfl rfl Try.func38 (by kernel_rfl) rfl #[.slice Ao32 y397.length co32, .bool true] rfl (by (try simp only [List.map_toArray, List.map_cons, List.map_nil]); first | done | rfl | (simp only [List.length_drop, List.length_take]; rfl)) ?_; (with_reducible refine (impl_HeldBy.calls k _ _ y397 true t400 _ ?side1 ?side2 A9.out).mono ?_); (case side1 => repeat (first | exact (Kd.R_reads' HO399.out).2.2 | (with_reducible refine Kd.Ca ?_ _) | (with_reducible refine Kd.Cn ?_ _) | (with_reducible refine Kd.Cd ?_))); (case side2 => exact (Kd.R_reads' HO399.out).2.1); rintro e w33 ⟨v401, rfl, ho0, hb⟩; refine ⟨_, rfl, ?_⟩; have n0_ := Aside0.mk (Kd.Rb (by (with_reducible repeat (first | apply Kd.Ra | apply Kd.Rn | apply Kd.Rd)); exact HO385.out) hb); have n1_ := Aside0.mk (Kd.Rb (by (with_reducible repeat (first | apply Kd.Ra | apply Kd.Rn | apply Kd.Rd)); exact HO392.out) hb); have n2_ := Aside0.mk (Kd.Rb (by (with_reducible repeat (first | apply Kd.Ra | apply Kd.Rn | apply Kd.Rd)); exact HO399.out) hb); have n3_ := Aside0.mk (Kd.R_lower ho0 (below_size (by repeat (first | (with_reducible first | exact HB.out | apply wa | apply wN | apply wd | refine ws ?_ GE386.out) | exact HB.out)))); have n4_ := Aside0.mk (bb (g := gb386) (by first | (with_reducible exact BK386.out) | (with_reducible exact bN BK386.out _) | (with_reducible exact bd BK386.out) | ((with_reducible repeat first | apply bN | apply bd | apply ba); exact BK386.out)) hb); have n5_ := Aside0.mk (below_step (by repeat (first | (with_reducible first | exact HB.out | apply wa | apply wN | apply wd | refine ws ?_ GE386.out) | exact HB.out)) hb); clear HO385; clear HO392; clear HO399; clear BK386; clear HB; have HO385 := n0_; have HO392 := n1_; have HO399 := n2_; have HO402 := n3_; have BK386 := n4_; have HB := n5_; clear n0_ n1_ n2_ n3_ n4_ n5_; (try clear hb); (try clear hb2); (try clear hk); (try clear hi); (try clear ho0)) | ((with_reducible refine gate_dst (N := 29) rfl ?_); refine Kd.R_lit k84 _ 84 ?hg (N := 29) ?hd (xs := ([] : List (S84))) (inner := []) (ok := fun _ => True) (okp := fun _ => True) ?hr ?hp (fun _ hk => hk) trivial (Below.refl _ _) (Nat.le_refl _) (by simp) ?_; (case hd => rfl); (case hg => rfl); (case hr => first | (go_simp; done) | (go_simp; rfl)); (case hp => exact (Reps.none _ _)); intro v404 w34 ho35 hb hg_ hnew_; clear hg_ hnew_; (first | rw [← Ny403.out] at ho35 | (simp only [Int.reduceToNat] at ho35; rw [← Ny403.out] at ho35)); have n0_ := Aside0.mk (Kd.R_elder' (by (with_reducible repeat (first | apply Kd.Ra | apply Kd.Rn | apply Kd.Rd)); exact HO385.out) (Kd.R_base ho35) hb); have n1_ := Aside0.mk (Kd.R_elder' (by (with_reducible repeat (first | apply Kd.Ra | apply Kd.Rn | apply Kd.Rd)); exact HO392.out) (Kd.R_base ho35) hb); have n2_ := Aside0.mk (Kd.R_elder' (by (with_reducible repeat (first | apply Kd.Ra | apply Kd.Rn | apply Kd.Rd)); exact HO399.out) (Kd.R_base ho35) hb); have n3_ := Aside0.mk (Kd.Rb (by (with_reducible repeat (first | apply Kd.Ra | apply Kd.Rn | apply Kd.Rd)); exact HO402.out) hb); have n4_ := Aside0.mk (Kd.R_lower (Kd.R_new' (Kd.R_new' (Kd.R_new' ho35 (Kd.R_lt (by (with_reducible repeat (first | apply Kd.Ra | apply Kd.Rn | apply Kd.Rd)); exact HO385.out))) (Kd.R_lt (by (with_reducible repeat (first | apply Kd.Ra | apply Kd.Rn | apply Kd.Rd)); exact HO392.out))) (Kd.R_lt (by (with_reducible repeat (first | apply Kd.Ra | apply Kd.Rn | apply Kd.Rd)); exact HO399.out))) (below_size (by repeat (first | (with_reducible first | exact HB.out | apply wa | apply wN | apply wd | refine ws ?_ GE386.out) | exact HB.out)))); have n5_ := Aside0.mk (bb (g := gb386) (by first | (with_reducible exact BK386.out) | (with_reducible exact bN BK386.out _) | (with_reducible exact bd BK386.out) | ((with_reducible repeat first | apply bN | apply bd | apply ba); exact BK386.out)) hb); have n6_ := Aside0.mk (below_step (by repeat (first | (with_reducible first | exact HB.out | apply wa | apply wN | apply wd | refine ws ?_ GE386.out) | exact HB.out)) hb); clear HO385; clear HO392; clear HO399; clear HO402; clear BK386; clear HB; have HO385 := n0_; have HO392 := n1_; have HO399 := n2_; have HO402 := n3_; have HO405 := n4_; have BK386 := n5_; have HB := n6_; clear n0_ n1_ n2_ n3_ n4_ n5_ n6_; clear hb ho35) | ((with_reducible refine gate_builtin (b := .append) (xs := #[.tmp 29, .tmp 30]) rfl ?_); at_builtin; refine Kd.R_append_rows k84 (w0 := w) w.heap.size rfl (.tmp 29) (.tmp 30) 30 84 (.agg #[(.int .i64 0), (.int .i64 0), (.int .i64 0), (.bool false)]) 32 rfl Try.underlying30 info84 rfl (by decide) (by omega) v404 y403 t383 _ _ _ (fun k_ => some k_ ≠ (.slice Ao26 t383.length co26 : Value).ownBlock ∧ some k_ ≠ (.slice Ao27 y390.length co27 : Value).ownBlock ∧ some k_ ≠ (.slice Ao32 y397.length co32 : Value).ownBlock) (fun _ => False) rfl rfl ?aO ?aR (fun _ _ h => h) (fun _ h => h.elim) ?aF ?aB ?aS ?aL ?_; (case aR => repeat (first | exact (Kd.R_reads' HO385.out).2.2 | (with_reducible refine Kd.Ca ?_ _) | (with_reducible refine Kd.Cn ?_ _) | (with_reducible refine Kd.Cd ?_))); (case aB => exact (by repeat (first | (with_reducible first | exact HB.out | apply wa | apply wN | apply wd | refine ws ?_ GE386.out) | exact HB.out))); (case aF => exact (fun k_ hk => ⟨Kd.fresh' (Kd.R_lt (by (with_reducible repeat (first | apply Kd.Ra | apply Kd.Rn | apply Kd.Rd)); exact HO385.out)) k_ hk, Kd.fresh' (Kd.R_lt (by (with_reducible repeat (first | apply Kd.Ra | apply Kd.Rn | apply Kd.Rd)); exact HO392.out)) k_ hk, Kd.fresh' (Kd.R_lt (by (with_reducible repeat (first | apply Kd.Ra | apply Kd.Rn | apply Kd.Rd)); exact HO399.out)) k_ hk⟩)); (case aO => exact (by (with_reducible repeat (first | apply Kd.Ra | apply Kd.Rn | apply Kd.Rd)); exact Kd.R_mono HO405.out (fun _ hk => ⟨hk.1.1.2, ⟨hk.1.2, hk.2⟩⟩))); (case aS => exact (below_size (by repeat (first | (with_reducible first | exact HB.out | apply wa | apply wN | apply wd | refine ws ?_ GE386.out) | exact HB.out)))); (case aL => have := LMc10.out; omega); intro v407 w36 ho hb hg hat; rw [← Ny406.out] at ho; have n0_ := Aside0.mk (Kd.R_after (ok := (fun k_ => some k_ ≠ (.slice Ao27 y390.length co27 : Value).ownBlock ∧ some k_ ≠ (.slice Ao32 y397.length co32 : Value).ownBlock)) (by (with_reducible repeat (first | apply Kd.Ra | apply Kd.Rn | apply Kd.Rd)); exact HO385.out) hg hat); have n1_ := Aside0.mk (blk_grown (g := gb386) (by (with_reducible repeat first | apply bN | apply bd | apply ba); exact BK386.out) hg (Kd.R_ne HO405.out BK386.out (by decide))); have n2_ := Aside0.mk (Kd.R_after (ok := (fun k_ => some k_ ≠ (.slice Ao26 t383.length co26 : Value).ownBlock ∧ some k_ ≠ (.slice Ao32 y397.length co32 : Value).ownBlock)) (by (with_reducible repeat (first | apply Kd.Ra | apply Kd.Rn | apply Kd.Rd)); exact HO392.out) hg hat); have n3_ := Aside0.mk (Kd.R_after (ok := (fun k_ => some k_ ≠ (.slice Ao26 t383.length co26 : Value).ownBlock ∧ some k_ ≠ (.slice Ao27 y390.length co27 : Value).ownBlock)) (by (with_reducible repeat (first | apply Kd.Ra | apply Kd.Rn | apply Kd.Rd)); exact HO399.out) hg hat); have n4_ := Aside0.mk (Kd.R_over' (by (with_reducible repeat (first | apply Kd.Ra | apply Kd.Rn | apply Kd.Rd)); exact HO402.out) (Kd.R_typed (by (with_reducible repeat (first | apply Kd.Ra | apply Kd.Rn | apply Kd.Rd)); exact HO405.out)) (by decide) hg); have n5_ := Aside0.mk (hb); have n6_ := Aside0.mk (ho); clear HO385; clear BK386; clear HO392; clear HO399; clear HO402; clear HB; clear HO405; have HO385 := n0_; have BK386 := n1_; have HO392 := n2_; have HO399 := n3_; have HO402 := n4_; have HB := n5_; have HO408 := n6_; clear n0_ n1_ n2_ n3_ n4_ n5_ n6_; clear ho hb hg hat; obtain ⟨Ao37, co37, eo37⟩ := Kd.R_slice HO408.out; subst eo37) | ((with_reducible refine gate_callee (f := 38) rfl ?_); refine goesL_ (some 32) rfl rfl Try.func38 (by kernel_rfl) rfl #[.slice Ao37 y406.length co37, .bool false] rfl (by (try simp only [List.map_toArray, List.map_cons, List.map_nil]); first | done | rfl | (simp only [List.length_drop, List.length_take]; rfl)) ?_; (with_reducible refine (impl_HeldBy.calls k _ _ y406 false t409 _ ?side1 ?side2 A11.out).mono ?_); (case side1 => repeat (first | exact (Kd.R_reads' HO408.out).2.2 | (with_reducible refine Kd.Ca ?_ _) | (with_reducible refine Kd.Cn ?_ _) | (with_reducible refine Kd.Cd ?_))); (case side2 => exact (Kd.R_reads' HO408.out).2.1); rintro e w38 ⟨v410, rfl, ho0, hb⟩; refine ⟨_, rfl, ?_⟩; have n0_ := Aside0.mk (Kd.Rb (by (with_reducible repeat (first | apply Kd.Ra | apply Kd.Rn | apply Kd.Rd)); exact HO385.out) hb); have n1_ := Aside0.mk (Kd.Rb (by (with_reducible repeat (first | apply Kd.Ra | apply Kd.Rn | apply Kd.Rd)); exact HO392.out) hb); have n2_ := Aside0.mk (Kd.Rb (by (with_reducible repeat (first | apply Kd.Ra | apply Kd.Rn | apply Kd.Rd)); exact HO399.out) hb); have n3_ := Aside0.mk (Kd.R_elder' (by (with_reducible repeat (first | apply Kd.Ra | apply Kd.Rn | apply Kd.Rd)); exact HO402.out) (Kd.R_base ho0) hb); have n4_ := Aside0.mk (Kd.Rb (by (with_reducible repeat (first | apply Kd.Ra | apply Kd.Rn | apply Kd.Rd)); exact HO408.out) hb); have n5_ := Aside0.mk (Kd.R_lower (Kd.R_new' ho0 (Kd.R_lt (by (with_reducible repeat (first | apply Kd.Ra | apply Kd.Rn | apply Kd.Rd)); exact HO402.out))) (below_size (by repeat (first | (with_reducible first | exact HB.out | apply wa | apply wN | apply wd | refine ws ?_ GE386.out) | exact HB.out)))); have n6_ := Aside0.mk (bb (g := gb386) (by first | (with_reducible exact BK386.out) | (with_reducible exact bN BK386.out _) | (with_reducible exact bd BK386.out) | ((with_reducible repeat first | apply bN | apply bd | apply ba); exact BK386.out)) hb); have n7_ := Aside0.mk (below_step (by repeat (first | (with_reducible first | exact HB.out | apply wa | apply wN | apply wd | refine ws ?_ GE386.out) | exact HB.out)) hb); clear HO385; clear HO392; clear HO399; clear HO402; clear HO408; clear BK386; clear HB; have HO385 := n0_; have HO392 := n1_; have HO399 := n2_; have HO402 := n3_; have HO408 := n4_; have HO411 := n5_; have BK386 := n6_; have HB := n7_; clear n0_ n1_ n2_ n3_ n4_ n5_ n6_ n7_; (try clear hb); (try clear hb2); (try clear hk); (try clear hi); (try clear ho0)) | ((with_reducible refine gate_dst (N := 33) rfl ?_); refine Kd.R_lit k84 _ 84 ?hg (N := 33) ?hd (xs := ([] : List (S84))) (inner := []) (ok := fun _ => True) (okp := fun _ => True) ?hr ?hp (fun _ hk => hk) trivial (Below.refl _ _) (Nat.le_refl _) (by simp) ?_; (case hd => rfl); (case hg => rfl); (case hr => first | (go_simp; done) | (go_simp; rfl)); (case hp => exact (Reps.none _ _)); intro v413 w39 ho40 hb hg_ hnew_; clear hg_ hnew_; (first | rw [← Ny412.out] at ho40 | (simp only [Int.reduceToNat] at ho40; rw [← Ny412.out] at ho40)); have n0_ := Aside0.mk (Kd.R_elder' (by (with_reducible repeat (first | apply Kd.Ra | apply Kd.Rn | apply Kd.Rd)); exact HO385.out) (Kd.R_base ho40) hb); have n1_ := Aside0.mk (Kd.R_elder' (by (with_reducible repeat (first | apply Kd.Ra | apply Kd.Rn | apply Kd.Rd)); exact HO392.out) (Kd.R_base ho40) hb); have n2_ := Aside0.mk (Kd.R_elder' (by (with_reducible repeat (first | apply Kd.Ra | apply Kd.Rn | apply Kd.Rd)); exact HO399.out) (Kd.R_base ho40) hb); have n3_ := Aside0.mk (Kd.Rb (by (with_reducible repeat (first | apply Kd.Ra | apply Kd.Rn | apply Kd.Rd)); exact HO402.out) hb); have n4_ := Aside0.mk (Kd.R_elder' (by (with_reducible repeat (first | apply Kd.Ra | apply Kd.Rn | apply Kd.Rd)); exact HO408.out) (Kd.R_base ho40) hb); have n5_ := Aside0.mk (Kd.Rb (by (with_reducible repeat (first | apply Kd.Ra | apply Kd.Rn | apply Kd.Rd)); exact HO411.out) hb); have n6_ := Aside0.mk (Kd.R_lower (Kd.R_new' (Kd.R_new' (Kd.R_new' (Kd.R_new' ho40 (Kd.R_lt (by (with_reducible repeat (first | apply Kd.Ra | apply Kd.Rn | apply Kd.Rd)); exact HO385.out))) (Kd.R_lt (by (with_reducible repeat (first | apply Kd.Ra | apply Kd.Rn | apply Kd.Rd)); exact HO392.out))) (Kd.R_lt (by (with_reducible repeat (first | apply Kd.Ra | apply Kd.Rn | apply Kd.Rd)); exact HO399.out))) (Kd.R_lt (by (with_reducible repeat (first | apply Kd.Ra | apply Kd.Rn | apply Kd.Rd)); exact HO408.out))) (below_size (by repeat (first | (with_reducible first | exact HB.out | apply wa | apply wN | apply wd | refine ws ?_ GE386.out) | exact HB.out)))); have n7_ := Aside0.mk (bb (g := gb386) (by first | (with_reducible exact BK386.out) | (with_reducible exact bN BK386.out _) | (with_reducible exact bd BK386.out) | ((with_reducible repeat first | apply bN | apply bd | apply ba); exact BK386.out)) hb); have n8_ := Aside0.mk (below_step (by repeat (first | (with_reducible first | exact HB.out | apply wa | apply wN | apply wd | refine ws ?_ GE386.out) | exact HB.out)) hb); clear HO385; clear HO392; clear HO399; clear HO402; clear HO408; clear HO411; clear BK386; clear HB; have HO385 := n0_; have HO392 := n1_; have HO399 := n2_; have HO402 := n3_; have HO408 := n4_; have HO411 := n5_; have HO414 := n6_; have BK386 := n7_; have HB := n8_; clear n0_ n1_ n2_ n3_ n4_ n5_ n6_ n7_ n8_; clear hb ho40) | ((with_reducible refine gate_builtin (b := .append) (xs := #[.tmp 33, .tmp 34]) rfl ?_); at_builtin; refine Kd.R_append_rows k84 (w0 := w) w.heap.size rfl (.tmp 33) (.tmp 34) 30 84 (.agg #[(.int .i64 0), (.int .i64 0), (.int .i64 0), (.bool false)]) 32 rfl Try.underlying30 info84 rfl (by decide) (by omega) v413 y412 t383 _ _ _ (fun k_ => some k_ ≠ (.slice Ao26 t383.length co26 : Value).ownBlock ∧ some k_ ≠ (.slice Ao27 y390.length co27 : Value).ownBlock ∧ some k_ ≠ (.slice Ao32 y397.length co32 : Value).ownBlock ∧ some k_ ≠ (.slice Ao37 y406.length co37 : Value).ownBlock) (fun _ => False) rfl rfl ?aO ?aR (fun _ _ h => h) (fun _ h => h.elim) ?aF ?aB ?aS ?aL ?_; (case aR => repeat (first | exact (Kd.R_reads' HO385.out).2.2 | (with_reducible refine Kd.Ca ?_ _) | (with_reducible refine Kd.Cn ?_ _) | (with_reducible refine Kd.Cd ?_))); (case aB => exact (by repeat (first | (with_reducible first | exact HB.out | apply wa | apply wN | apply wd | refine ws ?_ GE386.out) | exact HB.out))); (case aF => exact (fun k_ hk => ⟨Kd.fresh' (Kd.R_lt (by (with_reducible repeat (first | apply Kd.Ra | apply Kd.Rn | apply Kd.Rd)); exact HO385.out)) k_ hk, Kd.fresh' (Kd.R_lt (by (with_reducible repeat (first | apply Kd.Ra | apply Kd.Rn | apply Kd.Rd)); exact HO392.out)) k_ hk, Kd.fresh' (Kd.R_lt (by (with_reducible repeat (first | apply Kd.Ra | apply Kd.Rn | apply Kd.Rd)); exact HO399.out)) k_ hk, Kd.fresh' (Kd.R_lt (by (with_reducible repeat (first | apply Kd.Ra | apply Kd.Rn | apply Kd.Rd)); exact HO408.out)) k_ hk⟩)); (case aO => exact (by (with_reducible repeat (first | apply Kd.Ra | apply Kd.Rn | apply Kd.Rd)); exact Kd.R_mono HO414.out (fun _ hk => ⟨hk.1.1.1.2, ⟨hk.1.1.2, ⟨hk.1.2, hk.2⟩⟩⟩))); (case aS => exact (below_size (by repeat (first | (with_reducible first | exact HB.out | apply wa | apply wN | apply wd | refine ws ?_ GE386.out) | exact HB.out)))); (case aL => have := LMc12.out; omega); intro v416 w41 ho hb hg hat; rw [← Ny415.out] at ho; have n0_ := Aside0.mk (Kd.R_after (ok := (fun k_ => some k_ ≠ (.slice Ao27 y390.length co27 : Value).ownBlock ∧ some k_ ≠ (.slice Ao32 y397.length co32 : Value).ownBlock ∧ some k_ ≠ (.slice Ao37 y406.length co37 : Value).ownBlock)) (by (with_reducible repeat (first | apply Kd.Ra | apply Kd.Rn | apply Kd.Rd)); exact Kd.R_mono HO385.out (fun _ hk => ⟨⟨hk.1.1.1, ⟨hk.1.1.2, hk.1.2⟩⟩, hk.2⟩)) hg hat); have n1_ := Aside0.mk (blk_grown (g := gb386) (by (with_reducible repeat first | apply bN | apply bd | apply ba); exact BK386.out) hg (Kd.R_ne HO414.out BK386.out (by decide))); have n2_ := Aside0.mk (Kd.R_after (ok := (fun k_ => some k_ ≠ (.slice Ao26 t383.length co26 : Value).ownBlock ∧ some k_ ≠ (.slice Ao32 y397.length co32 : Value).ownBlock ∧ some k_ ≠ (.slice Ao37 y406.length co37 : Value).ownBlock)) (by (with_reducible repeat (first | apply Kd.Ra | apply Kd.Rn | apply Kd.Rd)); exact Kd.R_mono HO392.out (fun _ hk => ⟨⟨hk.1.1.1, ⟨hk.1.1.2, hk.1.2⟩⟩, hk.2⟩)) hg hat); have n3_ := Aside0.mk (Kd.R_after (ok := (fun k_ => some k_ ≠ (.slice Ao26 t383.length co26 : Value).ownBlock ∧ some k_ ≠ (.slice Ao27 y390.length co27 : Value).ownBlock ∧ some k_ ≠ (.slice Ao37 y406.length co37 : Value).ownBlock)) (by (with_reducible repeat (first | apply Kd.Ra | apply Kd.Rn | apply Kd.Rd)); exact Kd.R_mono HO399.out (fun _ hk => ⟨⟨hk.1.1.1, ⟨hk.1.1.2, hk.1.2⟩⟩, hk.2⟩)) hg hat); have n4_ := Aside0.mk (Kd.R_over' (by (with_reducible repeat (first | apply Kd.Ra | apply Kd.Rn | apply Kd.Rd)); exact HO402.out) (Kd.R_typed (by (with_reducible repeat (first | apply Kd.Ra | apply Kd.Rn | apply Kd.Rd)); exact HO414.out)) (by decide) hg); have n5_ := Aside0.mk (Kd.R_after (ok := (fun k_ => some k_ ≠ (.slice Ao26 t383.length co26 : Value).ownBlock ∧ some k_ ≠ (.slice Ao27 y390.length co27 : Value).ownBlock ∧ some k_ ≠ (.slice Ao32 y397.length co32 : Value).ownBlock)) (by (with_reducible repeat (first | apply Kd.Ra | apply Kd.Rn | apply Kd.Rd)); exact HO408.out) hg hat); have n6_ := Aside0.mk (Kd.R_over' (by (with_reducible repeat (first | apply Kd.Ra | apply Kd.Rn | apply Kd.Rd)); exact HO411.out) (Kd.R_typed (by (with_reducible repeat (first | apply Kd.Ra | apply Kd.Rn | apply Kd.Rd)); exact HO414.out)) (by decide) hg); have n7_ := Aside0.mk (hb); have n8_ := Aside0.mk (ho); clear HO385; clear BK386; clear HO392; clear HO399; clear HO402; clear HO408; clear HO411; clear HB; clear HO414; have HO385 := n0_; have BK386 := n1_; have HO392 := n2_; have HO399 := n3_; have HO402 := n4_; have HO408 := n5_; have HO411 := n6_; have HB := n7_; have HO417 := n8_; clear n0_ n1_ n2_ n3_ n4_ n5_ n6_ n7_ n8_; clear ho hb hg hat; obtain ⟨Ao42, co42, eo42⟩ := Kd.R_slice HO417.out; subst eo42) | ((with_reducible refine gate_callee (f := 39) rfl ?_); refine goesL_ (some 36) rfl rfl Try.func39 (by kernel_rfl) rfl #[.slice Ao42 y415.length co42, .bool true] rfl (by (try simp only [List.map_toArray, List.map_cons, List.map_nil]); first | done | rfl | (simp only [List.length_drop, List.length_take]; rfl)) ?_; (with_reducible refine (impl_UnderWay.calls k _ _ y415 true t418 _ ?side1 ?side2 A13.out).mono ?_); (case side1 => repeat (first | exact (Kd.R_reads' HO417.out).2.2 | (with_reducible refine Kd.Ca ?_ _) | (with_reducible refine Kd.Cn ?_ _) | (with_reducible refine Kd.Cd ?_))); (case side2 => exact (Kd.R_reads' HO417.out).2.1); rintro e w43 ⟨v419, rfl, ho0, hb⟩; refine ⟨_, rfl, ?_⟩; have n0_ := Aside0.mk (Kd.Rb (by (with_reducible repeat (first | apply Kd.Ra | apply Kd.Rn | apply Kd.Rd)); exact HO385.out) hb); have n1_ := Aside0.mk (Kd.Rb (by (with_reducible repeat (first | apply Kd.Ra | apply Kd.Rn | apply Kd.Rd)); exact HO392.out) hb); have n2_ := Aside0.mk (Kd.Rb (by (with_reducible repeat (first | apply Kd.Ra | apply Kd.Rn | apply Kd.Rd)); exact HO399.out) hb); have n3_ := Aside0.mk (Kd.R_elder' (by (with_reducible repeat (first | apply Kd.Ra | apply Kd.Rn | apply Kd.Rd)); exact HO402.out) (Kd.R_base ho0) hb); have n4_ := Aside0.mk (Kd.Rb (by (with_reducible repeat (first | apply Kd.Ra | apply Kd.Rn | apply Kd.Rd)); exact HO408.out) hb); have n5_ := Aside0.mk (Kd.R_elder' (by (with_reducible repeat (first | apply Kd.Ra | apply Kd.Rn | apply Kd.Rd)); exact HO411.out) (Kd.R_base ho0) hb); have n6_ := Aside0.mk (Kd.Rb (by (with_reducible repeat (first | apply Kd.Ra | apply Kd.Rn | apply Kd.Rd)); exact HO417.out) hb); have n7_ := Aside0.mk (Kd.R_lower (Kd.R_new' (Kd.R_new' ho0 (Kd.R_lt (by (with_reducible repeat (first | apply Kd.Ra | apply Kd.Rn | apply Kd.Rd)); exact HO402.out))) (Kd.R_lt (by (with_reducible repeat (first | apply Kd.Ra | apply Kd.Rn | apply Kd.Rd)); exact HO411.out))) (below_size (by repeat (first | (with_reducible first | exact HB.out | apply wa | apply wN | apply wd | refine ws ?_ GE386.out) | exact HB.out)))); have n8_ := Aside0.mk (bb (g := gb386) (by first | (with_reducible exact BK386.out) | (with_reducible exact bN BK386.out _) | (with_reducible exact bd BK386.out) | ((with_reducible repeat first | apply bN | apply bd | apply ba); exact BK386.out)) hb); have n9_ := Aside0.mk (below_step (by repeat (first | (with_reducible first | exact HB.out | apply wa | apply wN | apply wd | refine ws ?_ GE386.out) | exact HB.out)) hb); clear HO385; clear HO392; clear HO399; clear HO402; clear HO408; clear HO411; clear HO417; clear BK386; clear HB; have HO385 := n0_; have HO392 := n1_; have HO399 := n2_; have HO402 := n3_; have HO408 := n4_; have HO411 := n5_; have HO417 := n6_; have HO420 := n7_; have BK386 := n8_; have HB := n9_; clear n0_ n1_ n2_ n3_ n4_ n5_ n6_ n7_ n8_ n9_; (try clear hb); (try clear hb2); (try clear hk); (try clear hi); (try clear ho0); obtain ⟨Ao44, co44, eo44⟩ := Kd.R_slice HO420.out; subst eo44) | ((with_reducible refine gate_dst (N := 38) rfl ?_); refine Kd.R_lit k84 _ 84 ?hg (N := 38) ?hd (xs := ([] : List (S84))) (inner := []) (ok := fun _ => True) (okp := fun _ => True) ?hr ?hp (fun _ hk => hk) trivial (Below.refl _ _) (Nat.le_refl _) (by simp) ?_; (case hd => rfl); (case hg => rfl); (case hr => first | (go_simp; done) | (go_simp; rfl)); (case hp => exact (Reps.none _ _)); intro v422 w45 ho46 hb hg_ hnew_; clear hg_ hnew_; (first | rw [← Ny421.out] at ho46 | (simp only [Int.reduceToNat] at ho46; rw [← Ny421.out] at ho46)); have n0_ := Aside0.mk (Kd.R_elder' (by (with_reducible repeat (first | apply Kd.Ra | apply Kd.Rn | apply Kd.Rd)); exact HO385.out) (Kd.R_base ho46) hb); have n1_ := Aside0.mk (Kd.R_elder' (by (with_reducible repeat (first | apply Kd.Ra | apply Kd.Rn | apply Kd.Rd)); exact HO392.out) (Kd.R_base ho46) hb); have n2_ := Aside0.mk (Kd.R_elder' (by (with_reducible repeat (first | apply Kd.Ra | apply Kd.Rn | apply Kd.Rd)); exact HO399.out) (Kd.R_base ho46) hb); have n3_ := Aside0.mk (Kd.Rb (by (with_reducible repeat (first | apply Kd.Ra | apply Kd.Rn | apply Kd.Rd)); exact HO402.out) hb); have n4_ := Aside0.mk (Kd.R_elder' (by (with_reducible repeat (first | apply Kd.Ra | apply Kd.Rn | apply Kd.Rd)); exact HO408.out) (Kd.R_base ho46) hb); have n5_ := Aside0.mk (Kd.Rb (by (with_reducible repeat (first | apply Kd.Ra | apply Kd.Rn | apply Kd.Rd)); exact HO411.out) hb); have n6_ := Aside0.mk (Kd.R_elder' (by (with_reducible repeat (first | apply Kd.Ra | apply Kd.Rn | apply Kd.Rd)); exact HO417.out) (Kd.R_base ho46) hb); have n7_ := Aside0.mk (Kd.Rb (by (with_reducible repeat (first | apply Kd.Ra | apply Kd.Rn | apply Kd.Rd)); exact HO420.out) hb); have n8_ := Aside0.mk (Kd.R_lower (Kd.R_new' (Kd.R_new' (Kd.R_new' (Kd.R_new' (Kd.R_new' ho46 (Kd.R_lt (by (with_reducible repeat (first | apply Kd.Ra | apply Kd.Rn | apply Kd.Rd)); exact HO385.out))) (Kd.R_lt (by (with_reducible repeat (first | apply Kd.Ra | apply Kd.Rn | apply Kd.Rd)); exact HO392.out))) (Kd.R_lt (by (with_reducible repeat (first | apply Kd.Ra | apply Kd.Rn | apply Kd.Rd)); exact HO399.out))) (Kd.R_lt (by (with_reducible repeat (first | apply Kd.Ra | apply Kd.Rn | apply Kd.Rd)); exact HO408.out))) (Kd.R_lt (by (with_reducible repeat (first | apply Kd.Ra | apply Kd.Rn | apply Kd.Rd)); exact HO417.out))) (below_size (by repeat (first | (with_reducible first | exact HB.out | apply wa | apply wN | apply wd | refine ws ?_ GE386.out) | exact HB.out)))); have n9_ := Aside0.mk (bb (g := gb386) (by first | (with_reducible exact BK386.out) | (with_reducible exact bN BK386.out _) | (with_reducible exact bd BK386.out) | ((with_reducible repeat first | apply bN | apply bd | apply ba); exact BK386.out)) hb); have n10_ := Aside0.mk (below_step (by repeat (first | (with_reducible first | exact HB.out | apply wa | apply wN | apply wd | refine ws ?_ GE386.out) | exact HB.out)) hb); clear HO385; clear HO392; clear HO399; clear HO402; clear HO408; clear HO411; clear HO417; clear HO420; clear BK386; clear HB; have HO385 := n0_; have HO392 := n1_; have HO399 := n2_; have HO402 := n3_; have HO408 := n4_; have HO411 := n5_; have HO417 := n6_; have HO420 := n7_; have HO423 := n8_; have BK386 := n9_; have HB := n10_; clear n0_ n1_ n2_ n3_ n4_ n5_ n6_ n7_ n8_ n9_ n10_; clear hb ho46) | ((with_reducible refine gate_builtin (b := .append) (xs := #[.tmp 38, .tmp 39]) rfl ?_); at_builtin; refine Kd.R_append_rows k84 (w0 := w) w.heap.size rfl (.tmp 38) (.tmp 39) 30 84 (.agg #[(.int .i64 0), (.int .i64 0), (.int .i64 0), (.bool false)]) 32 rfl Try.underlying30 info84 rfl (by decide) (by omega) v422 y421 t383 _ _ _ (fun k_ => some k_ ≠ (.slice Ao26 t383.length co26 : Value).ownBlock ∧ some k_ ≠ (.slice Ao27 y390.length co27 : Value).ownBlock ∧ some k_ ≠ (.slice Ao32 y397.length co32 : Value).ownBlock ∧ some k_ ≠ (.slice Ao37 y406.length co37 : Value).ownBlock ∧ some k_ ≠ (.slice Ao42 y415.length co42 : Value).ownBlock) (fun _ => False) rfl rfl ?aO ?aR (fun _ _ h => h) (fun _ h => h.elim) ?aF ?aB ?aS ?aL ?_; (case aR => repeat (first | exact (Kd.R_reads' HO385.out).2.2 | (with_reducible refine Kd.Ca ?_ _) | (with_reducible refine Kd.Cn ?_ _) | (with_reducible refine Kd.Cd ?_))); (case aB => exact (by repeat (first | (with_reducible first | exact HB.out | apply wa | apply wN | apply wd | refine ws ?_ GE386.out) | exact HB.out))); (case aF => exact (fun k_ hk => ⟨Kd.fresh' (Kd.R_lt (by (with_reducible repeat (first | apply Kd.Ra | apply Kd.Rn | apply Kd.Rd)); exact HO385.out)) k_ hk, Kd.fresh' (Kd.R_lt (by (with_reducible repeat (first | apply Kd.Ra | apply Kd.Rn | apply Kd.Rd)); exact HO392.out)) k_ hk, Kd.fresh' (Kd.R_lt (by (with_reducible repeat (first | apply Kd.Ra | apply Kd.Rn | apply Kd.Rd)); exact HO399.out)) k_ hk, Kd.fresh' (Kd.R_lt (by (with_reducible repeat (first | apply Kd.Ra | apply Kd.Rn | apply Kd.Rd)); exact HO408.out)) k_ hk, Kd.fresh' (Kd.R_lt (by (with_reducible repeat (first | apply Kd.Ra | apply Kd.Rn | apply Kd.Rd)); exact HO417.out)) k_ hk⟩)); (case aO => exact (by (with_reducible repeat (first | apply Kd.Ra | apply Kd.Rn | apply Kd.Rd)); exact Kd.R_mono HO423.out (fun _ hk => ⟨hk.1.1.1.1.2, ⟨hk.1.1.1.2, ⟨hk.1.1.2, ⟨hk.1.2, hk.2⟩⟩⟩⟩))); (case aS => exact (below_size (by repeat (first | (with_reducible first | exact HB.out | apply wa | apply wN | apply wd | refine ws ?_ GE386.out) | exact HB.out)))); (case aL => have := LMc14.out; omega); intro v425 w47 ho hb hg hat; rw [← Ny424.out] at ho; have n0_ := Aside0.mk (Kd.R_after (ok := (fun k_ => some k_ ≠ (.slice Ao27 y390.length co27 : Value).ownBlock ∧ some k_ ≠ (.slice Ao32 y397.length co32 : Value).ownBlock ∧ some k_ ≠ (.slice Ao37 y406.length co37 : Value).ownBlock ∧ some k_ ≠ (.slice Ao42 y415.length co42 : Value).ownBlock)) (by (with_reducible repeat (first | apply Kd.Ra | apply Kd.Rn | apply Kd.Rd)); exact Kd.R_mono HO385.out (fun _ hk => ⟨⟨hk.1.1.1, ⟨hk.1.1.2.1, ⟨hk.1.1.2.2, hk.1.2⟩⟩⟩, hk.2⟩)) hg hat); have n1_ := Aside0.mk (blk_grown (g := gb386) (by (with_reducible repeat first | apply bN | apply bd | apply ba); exact BK386.out) hg (Kd.R_ne HO423.out BK386.out (by decide))); have n2_ := Aside0.mk (Kd.R_after (ok := (fun k_ => some k_ ≠ (.slice Ao26 t383.length co26 : Value).ownBlock ∧ some k_ ≠ (.slice Ao32 y397.length co32 : Value).ownBlock ∧ some k_ ≠ (.slice Ao37 y406.length co37 : Value).ownBlock ∧ some k_ ≠ (.slice Ao42 y415.length co42 : Value).ownBlock)) (by (with_reducible repeat (first | apply Kd.Ra | apply Kd.Rn | apply Kd.Rd)); exact Kd.R_mono HO392.out (fun _ hk => ⟨⟨hk.1.1.1, ⟨hk.1.1.2.1, ⟨hk.1.1.2.2, hk.1.2⟩⟩⟩, hk.2⟩)) hg hat); have n3_ := Aside0.mk (Kd.R_after (ok := (fun k_ => some k_ ≠ (.slice Ao26 t383.length co26 : Value).ownBlock ∧ some k_ ≠ (.slice Ao27 y390.length co27 : Value).ownBlock ∧ some k_ ≠ (.slice Ao37 y406.length co37 : Value).ownBlock ∧ some k_ ≠ (.slice Ao42 y415.length co42 : Value).ownBlock)) (by (with_reducible repeat (first | apply Kd.Ra | apply Kd.Rn | apply Kd.Rd)); exact Kd.R_mono HO399.out (fun _ hk => ⟨⟨hk.1.1.1, ⟨hk.1.1.2.1, ⟨hk.1.1.2.2, hk.1.2⟩⟩⟩, hk.2⟩)) hg hat); have n4_ := Aside0.mk (Kd.R_over' (by (with_reducible repeat (first | apply Kd.Ra | apply Kd.Rn | apply Kd.Rd)); exact HO402.out) (Kd.R_typed (by (with_reducible repeat (first | apply Kd.Ra | apply Kd.Rn | apply Kd.Rd)); exact HO423.out)) (by decide) hg); have n5_ := Aside0.mk (Kd.R_after (ok := (fun k_ => some k_ ≠ (.slice Ao26 t383.length co26 : Value).ownBlock ∧ some k_ ≠ (.slice Ao27 y390.length co27 : Value).ownBlock ∧ some k_ ≠ (.slice Ao32 y397.length co32 : Value).ownBlock ∧ some k_ ≠ (.slice Ao42 y415.length co42 : Value).ownBlock)) (by (with_reducible repeat (first | apply Kd.Ra | apply Kd.Rn | apply Kd.Rd)); exact Kd.R_mono HO408.out (fun _ hk => ⟨⟨hk.1.1.1, ⟨hk.1.1.2.1, ⟨hk.1.1.2.2, hk.1.2⟩⟩⟩, hk.2⟩)) hg hat); have n6_ := Aside0.mk (Kd.R_over' (by (with_reducible repeat (first | apply Kd.Ra | apply Kd.Rn | apply Kd.Rd)); exact HO411.out) (Kd.R_typed (by (with_reducible repeat (first | apply Kd.Ra | apply Kd.Rn | apply Kd.Rd)); exact HO423.out)) (by decide) hg); have n7_ := Aside0.mk (Kd.R_after (ok := (fun k_ => some k_ ≠ (.slice Ao26 t383.length co26 : Value).ownBlock ∧ some k_ ≠ (.slice Ao27 y390.length co27 : Value).ownBlock ∧ some k_ ≠ (.slice Ao32 y397.length co32 : Value).ownBlock ∧ some k_ ≠ (.slice Ao37 y406.length co37 : Value).ownBlock)) (by (with_reducible repeat (first | apply Kd.Ra | apply Kd.Rn | apply Kd.Rd)); exact HO417.out) hg hat); have n8_ := Aside0.mk (Kd.R_over' (by (with_reducible repeat (first | apply Kd.Ra | apply Kd.Rn | apply Kd.Rd)); exact HO420.out) (Kd.R_typed (by (with_reducible repeat (first | apply Kd.Ra | apply Kd.Rn | apply Kd.Rd)); exact HO423.out)) (by decide) hg); have n9_ := Aside0.mk (hb); have n10_ := Aside0.mk (ho); clear HO385; clear BK386; clear HO392; clear HO399; clear HO402; clear HO408; clear HO411; clear HO417; clear HO420; clear HB; clear HO423; have HO385 := n0_; have BK386 := n1_; have HO392 := n2_; have HO399 := n3_; have HO402 := n4_; have HO408 := n5_; have HO411 := n6_; have HO417 := n7_; have HO420 := n8_; have HB := n9_; have HO426 := n10_; clear n0_ n1_ n2_ n3_ n4_ n5_ n6_ n7_ n8_ n9_ n10_; clear ho hb hg hat; obtain ⟨Ao48, co48, eo48⟩ := Kd.R_slice HO426.out; subst eo48) | ((with_reducible refine gate_callee (f := 39) rfl ?_); refine goesL_ (some 41) rfl rfl Try.func39 (by kernel_rfl) rfl #[.slice Ao48 y424.length co48, .bool false] rfl (by (try simp only [List.map_toArray, List.map_cons, List.map_nil]); first | done | rfl | (simp only [List.length_drop, List.length_take]; rfl)) ?_; (with_reducible refine (impl_UnderWay.calls k _ _ y424 false t427 _ ?side1 ?side2 A15.out).mono ?_); (case side1 => repeat (first | exact (Kd.R_reads' HO426.out).2.2 | (with_reducible refine Kd.Ca ?_ _) | (with_reducible refine Kd.Cn ?_ _) | (with_reducible refine Kd.Cd ?_))); (case side2 => exact (Kd.R_reads' HO426.out).2.1); rintro e w49 ⟨v428, rfl, ho0, hb⟩; refine ⟨_, rfl, ?_⟩; have n0_ := Aside0.mk (Kd.Rb (by (with_reducible repeat (first | apply Kd.Ra | apply Kd.Rn | apply Kd.Rd)); exact HO385.out) hb); have n1_ := Aside0.mk (Kd.Rb (by (with_reducible repeat (first | apply Kd.Ra | apply Kd.Rn | apply Kd.Rd)); exact HO392.out) hb); have n2_ := Aside0.mk (Kd.Rb (by (with_reducible repeat (first | apply Kd.Ra | apply Kd.Rn | apply Kd.Rd)); exact HO399.out) hb); have n3_ := Aside0.mk (Kd.R_elder' (by (with_reducible repeat (first | apply Kd.Ra | apply Kd.Rn | apply Kd.Rd)); exact HO402.out) (Kd.R_base ho0) hb); have n4_ := Aside0.mk (Kd.Rb (by (with_reducible repeat (first | apply Kd.Ra | apply Kd.Rn | apply Kd.Rd)); exact HO408.out) hb); have n5_ := Aside0.mk (Kd.R_elder' (by (with_reducible repeat (first | apply Kd.Ra | apply Kd.Rn | apply Kd.Rd)); exact HO411.out) (Kd.R_base ho0) hb); have n6_ := Aside0.mk (Kd.Rb (by (with_reducible repeat (first | apply Kd.Ra | apply Kd.Rn | apply Kd.Rd)); exact HO417.out) hb); have n7_ := Aside0.mk (Kd.R_elder' (by (with_reducible repeat (first | apply Kd.Ra | apply Kd.Rn | apply Kd.Rd)); exact HO420.out) (Kd.R_base ho0) hb); have n8_ := Aside0.mk (Kd.Rb (by (with_reducible repeat (first | apply Kd.Ra | apply Kd.Rn | apply Kd.Rd)); exact HO426.out) hb); have n9_ := Aside0.mk (Kd.R_lower (Kd.R_new' (Kd.R_new' (Kd.R_new' ho0 (Kd.R_lt (by (with_reducible repeat (first | apply Kd.Ra | apply Kd.Rn | apply Kd.Rd)); exact HO402.out))) (Kd.R_lt (by (with_reducible repeat (first | apply Kd.Ra | apply Kd.Rn | apply Kd.Rd)); exact HO411.out))) (Kd.R_lt (by (with_reducible repeat (first | apply Kd.Ra | apply Kd.Rn | apply Kd.Rd)); exact HO420.out))) (below_size (by repeat (first | (with_reducible first | exact HB.out | apply wa | apply wN | apply wd | refine ws ?_ GE386.out) | exact HB.out)))); have n10_ := Aside0.mk (bb (g := gb386) (by first | (with_reducible exact BK386.out) | (with_reducible exact bN BK386.out _) | (with_reducible exact bd BK386.out) | ((with_reducible repeat first | apply bN | apply bd | apply ba); exact BK386.out)) hb); have n11_ := Aside0.mk (below_step (by repeat (first | (with_reducible first | exact HB.out | apply wa | apply wN | apply wd | refine ws ?_ GE386.out) | exact HB.out)) hb); clear HO385; clear HO392; clear HO399; clear HO402; clear HO408; clear HO411; clear HO417; clear HO420; clear HO426; clear BK386; clear HB; have HO385 := n0_; have HO392 := n1_; have HO399 := n2_; have HO402 := n3_; have HO408 := n4_; have HO411 := n5_; have HO417 := n6_; have HO420 := n7_; have HO426 := n8_; have HO429 := n9_; have BK386 := n10_; have HB := n11_; clear n0_ n1_ n2_ n3_ n4_ n5_ n6_ n7_ n8_ n9_ n10_ n11_; (try clear hb); (try clear hb2); (try clear hk); (try clear hi); (try clear ho0); obtain ⟨Ao50, co50, eo50⟩ := Kd.R_slice HO429.out; subst eo50) | ((with_reducible refine gate_dst (N := 44) rfl ?_); refine Kd.R_lit k84 _ 84 ?hg (N := 44) ?hd (xs := ([] : List (S84))) (inner := []) (ok := fun _ => True) (okp := fun _ => True) ?hr ?hp (fun _ hk => hk) trivial (Below.refl _ _) (Nat.le_refl _) (by simp) ?_; (case hd => rfl); (case hg => rfl); (case hr => first | (go_simp; done) | (go_simp; rfl)); (case hp => exact (Reps.none _ _)); intro v431 w51 ho52 hb hg_ hnew_; clear hg_ hnew_; (first | rw [← Ny430.out] at ho52 | (simp only [Int.reduceToNat] at ho52; rw [← Ny430.out] at ho52)); have n0_ := Aside0.mk (Kd.R_elder' (by (with_reducible repeat (first | apply Kd.Ra | apply Kd.Rn | apply Kd.Rd)); exact HO385.out) (Kd.R_base ho52) hb); have n1_ := Aside0.mk (Kd.R_elder' (by (with_reducible repeat (first | apply Kd.Ra | apply Kd.Rn | apply Kd.Rd)); exact HO392.out) (Kd.R_base ho52) hb); have n2_ := Aside0.mk (Kd.R_elder' (by (with_reducible repeat (first | apply Kd.Ra | apply Kd.Rn | apply Kd.Rd)); exact HO399.out) (Kd.R_base ho52) hb); have n3_ := Aside0.mk (Kd.Rb (by (with_reducible repeat (first | apply Kd.Ra | apply Kd.Rn | apply Kd.Rd)); exact HO402.out) hb); have n4_ := Aside0.mk (Kd.R_elder' (by (with_reducible repeat (first | apply Kd.Ra | apply Kd.Rn | apply Kd.Rd)); exact HO408.out) (Kd.R_base ho52) hb); have n5_ := Aside0.mk (Kd.Rb (by (with_reducible repeat (first | apply Kd.Ra | apply Kd.Rn | apply Kd.Rd)); exact HO411.out) hb); have n6_ := Aside0.mk (Kd.R_elder' (by (with_reducible repeat (first | apply Kd.Ra | apply Kd.Rn | apply Kd.Rd)); exact HO417.out) (Kd.R_base ho52) hb); have n7_ := Aside0.mk (Kd.Rb (by (with_reducible repeat (first | apply Kd.Ra | apply Kd.Rn | apply Kd.Rd)); exact HO420.out) hb); have n8_ := Aside0.mk (Kd.R_elder' (by (with_reducible repeat (first | apply Kd.Ra | apply Kd.Rn | apply Kd.Rd)); exact HO426.out) (Kd.R_base ho52) hb); have n9_ := Aside0.mk (Kd.Rb (by (with_reducible repeat (first | apply Kd.Ra | apply Kd.Rn | apply Kd.Rd)); exact HO429.out) hb); have n10_ := Aside0.mk (Kd.R_lower (Kd.R_new' (Kd.R_new' (Kd.R_new' (Kd.R_new' (Kd.R_new' (Kd.R_new' ho52 (Kd.R_lt (by (with_reducible repeat (first | apply Kd.Ra | apply Kd.Rn | apply Kd.Rd)); exact HO385.out))) (Kd.R_lt (by (with_reducible repeat (first | apply Kd.Ra | apply Kd.Rn | apply Kd.Rd)); exact HO392.out))) (Kd.R_lt (by (with_reducible repeat (first | apply Kd.Ra | apply Kd.Rn | apply Kd.Rd)); exact HO399.out))) (Kd.R_lt (by (with_reducible repeat (first | apply Kd.Ra | apply Kd.Rn | apply Kd.Rd)); exact HO408.out))) (Kd.R_lt (by (with_reducible repeat (first | apply Kd.Ra | apply Kd.Rn | apply Kd.Rd)); exact HO417.out))) (Kd.R_lt (by (with_reducible repeat (first | apply Kd.Ra | apply Kd.Rn | apply Kd.Rd)); exact HO426.out))) (below_size (by repeat (first | (with_reducible first | exact HB.out | apply wa | apply wN | apply wd | refine ws ?_ GE386.out) | exact HB.out)))); have n11_ := Aside0.mk (bb (g := gb386) (by first | (with_reducible exact BK386.out) | (with_reducible exact bN BK386.out _) | (with_reducible exact bd BK386.out) | ((with_reducible repeat first | apply bN | apply bd | apply ba); exact BK386.out)) hb); have n12_ := Aside0.mk (below_step (by repeat (first | (with_reducible first | exact HB.out | apply wa | apply wN | apply wd | refine ws ?_ GE386.out) | exact HB.out)) hb); clear HO385; clear HO392; clear HO399; clear HO402; clear HO408; clear HO411; clear HO417; clear HO420; clear HO426; clear HO429; clear BK386; clear HB; have HO385 := n0_; have HO392 := n1_; have HO399 := n2_; have HO402 := n3_; have HO408 := n4_; have HO411 := n5_; have HO417 := n6_; have HO420 := n7_; have HO426 := n8_; have HO429 := n9_; have HO432 := n10_; have BK386 := n11_; have HB := n12_; clear n0_ n1_ n2_ n3_ n4_ n5_ n6_ n7_ n8_ n9_ n10_ n11_ n12_; clear hb ho52) | ((with_reducible refine gate_builtin (b := .append) (xs := #[.tmp 44, .tmp 45]) rfl ?_); at_builtin; refine Kd.R_append_rows k84 (w0 := w) w.heap.size rfl (.tmp 44) (.tmp 45) 30 84 (.agg #[(.int .i64 0), (.int .i64 0), (.int .i64 0), (.bool false)]) 32 rfl Try.underlying30 info84 rfl (by decide) (by omega) v431 y430 t383 _ _ _ (fun k_ => some k_ ≠ (.slice Ao26 t383.length co26 : Value).ownBlock ∧ some k_ ≠ (.slice Ao27 y390.length co27 : Value).ownBlock ∧ some k_ ≠ (.slice Ao32 y397.length co32 : Value).ownBlock ∧ some k_ ≠ (.slice Ao37 y406.length co37 : Value).ownBlock ∧ some k_ ≠ (.slice Ao42 y415.length co42 : Value).ownBlock ∧ some k_ ≠ (.slice Ao48 y424.length co48 : Value).ownBlock) (fun _ => False) rfl rfl ?aO ?aR (fun _ _ h => h) (fun _ h => h.elim) ?aF ?aB ?aS ?aL ?_; (case aR => repeat (first | exact (Kd.R_reads' HO385.out).2.2 | (with_reducible refine Kd.Ca ?_ _) | (with_reducible refine Kd.Cn ?_ _) | (with_reducible refine Kd.Cd ?_))); (case aB => exact (by repeat (first | (with_reducible first | exact HB.out | apply wa | apply wN | apply wd | refine ws ?_ GE386.out) | exact HB.out))); (case aF => exact (fun k_ hk => ⟨Kd.fresh' (Kd.R_lt (by (with_reducible repeat (first | apply Kd.Ra | apply Kd.Rn | apply Kd.Rd)); exact HO385.out)) k_ hk, Kd.fresh' (Kd.R_lt (by (with_reducible repeat (first | apply Kd.Ra | apply Kd.Rn | apply Kd.Rd)); exact HO392.out)) k_ hk, Kd.fresh' (Kd.R_lt (by (with_reducible repeat (first | apply Kd.Ra | apply Kd.Rn | apply Kd.Rd)); exact HO399.out)) k_ hk, Kd.fresh' (Kd.R_lt (by (with_reducible repeat (first | apply Kd.Ra | apply Kd.Rn | apply Kd.Rd)); exact HO408.out)) k_ hk, Kd.fresh' (Kd.R_lt (by (with_reducible repeat (first | apply Kd.Ra | apply Kd.Rn | apply Kd.Rd)); exact HO417.out)) k_ hk, Kd.fresh' (Kd.R_lt (by (with_reducible repeat (first | apply Kd.Ra | apply Kd.Rn | apply Kd.Rd)); exact HO426.out)) k_ hk⟩)); (case aO => exact (by (with_reducible repeat (first | apply Kd.Ra | apply Kd.Rn | apply Kd.Rd)); exact Kd.R_mono HO432.out (fun _ hk => ⟨hk.1.1.1.1.1.2, ⟨hk.1.1.1.1.2, ⟨hk.1.1.1.2, ⟨hk.1.1.2, ⟨hk.1.2, hk.2⟩⟩⟩⟩⟩))); (case aS => exact (below_size (by repeat (first | (with_reducible first | exact HB.out | apply wa | apply wN | apply wd | refine ws ?_ GE386.out) | exact HB.out)))); (case aL => have := LMc16.out; omega); intro v434 w53 ho hb hg hat; rw [← Ny433.out] at ho; have n0_ := Aside0.mk (Kd.R_after (ok := (fun k_ => some k_ ≠ (.slice Ao27 y390.length co27 : Value).ownBlock ∧ some k_ ≠ (.slice Ao32 y397.length co32 : Value).ownBlock ∧ some k_ ≠ (.slice Ao37 y406.length co37 : Value).ownBlock ∧ some k_ ≠ (.slice Ao42 y415.length co42 : Value).ownBlock ∧ some k_ ≠ (.slice Ao48 y424.length co48 : Value).ownBlock)) (by (with_reducible repeat (first | apply Kd.Ra | apply Kd.Rn | apply Kd.Rd)); exact Kd.R_mono HO385.out (fun _ hk => ⟨⟨hk.1.1.1, ⟨hk.1.1.2.1, ⟨hk.1.1.2.2.1, ⟨hk.1.1.2.2.2, hk.1.2⟩⟩⟩⟩, hk.2⟩)) hg hat); have n1_ := Aside0.mk (blk_grown (g := gb386) (by (with_reducible repeat first | apply bN | apply bd | apply ba); exact BK386.out) hg (Kd.R_ne HO432.out BK386.out (by decide))); have n2_ := Aside0.mk (Kd.R_after (ok := (fun k_ => some k_ ≠ (.slice Ao26 t383.length co26 : Value).ownBlock ∧ some k_ ≠ (.slice Ao32 y397.length co32 : Value).ownBlock ∧ some k_ ≠ (.slice Ao37 y406.length co37 : Value).ownBlock ∧ some k_ ≠ (.slice Ao42 y415.length co42 : Value).ownBlock ∧ some k_ ≠ (.slice Ao48 y424.length co48 : Value).ownBlock)) (by (with_reducible repeat (first | apply Kd.Ra | apply Kd.Rn | apply Kd.Rd)); exact Kd.R_mono HO392.out (fun _ hk => ⟨⟨hk.1.1.1, ⟨hk.1.1.2.1, ⟨hk.1.1.2.2.1, ⟨hk.1.1.2.2.2, hk.1.2⟩⟩⟩⟩, hk.2⟩)) hg hat); have n3_ := Aside0.mk (Kd.R_after (ok := (fun k_ => some k_ ≠ (.slice Ao26 t383.length co26 : Value).ownBlock ∧ some k_ ≠ (.slice Ao27 y390.length co27 : Value).ownBlock ∧ some k_ ≠ (.slice Ao37 y406.length co37 : Value).ownBlock ∧ some k_ ≠ (.slice Ao42 y415.length co42 : Value).ownBlock ∧ some k_ ≠ (.slice Ao48 y424.length co48 : Value).ownBlock)) (by (with_reducible repeat (first | apply Kd.Ra | apply Kd.Rn | apply Kd.Rd)); exact Kd.R_mono HO399.out (fun _ hk => ⟨⟨hk.1.1.1, ⟨hk.1.1.2.1, ⟨hk.1.1.2.2.1, ⟨hk.1.1.2.2.2, hk.1.2⟩⟩⟩⟩, hk.2⟩)) hg hat); have n4_ := Aside0.mk (Kd.R_over' (by (with_reducible repeat (first | apply Kd.Ra | apply Kd.Rn | apply Kd.Rd)); exact HO402.out) (Kd.R_typed (by (with_reducible repeat (first | apply Kd.Ra | apply Kd.Rn | apply Kd.Rd)); exact HO432.out)) (by decide) hg); have n5_ := Aside0.mk (Kd.R_after (ok := (fun k_ => some k_ ≠ (.slice Ao26 t383.length co26 : Value).ownBlock ∧ some k_ ≠ (.slice Ao27 y390.length co27 : Value).ownBlock ∧ some k_ ≠ (.slice Ao32 y397.length co32 : Value).ownBlock ∧ some k_ ≠ (.slice Ao42 y415.length co42 : Value).ownBlock ∧ some k_ ≠ (.slice Ao48 y424.length co48 : Value).ownBlock)) (by (with_reducible repeat (first | apply Kd.Ra | apply Kd.Rn | apply Kd.Rd)); exact Kd.R_mono HO408.out (fun _ hk => ⟨⟨hk.1.1.1, ⟨hk.1.1.2.1, ⟨hk.1.1.2.2.1, ⟨hk.1.1.2.2.2, hk.1.2⟩⟩⟩⟩, hk.2⟩)) hg hat); have n6_ := Aside0.mk (Kd.R_over' (by (with_reducible repeat (first | apply Kd.Ra | apply Kd.Rn | apply Kd.Rd)); exact HO411.out) (Kd.R_typed (by (with_reducible repeat (first | apply Kd.Ra | apply Kd.Rn | apply Kd.Rd)); exact HO432.out)) (by decide) hg); have n7_ := Aside0.mk (Kd.R_after (ok := (fun k_ => some k_ ≠ (.slice Ao26 t383.length co26 : Value).ownBlock ∧ some k_ ≠ (.slice Ao27 y390.length co27 : Value).ownBlock ∧ some k_ ≠ (.slice Ao32 y397.length co32 : Value).ownBlock ∧ some k_ ≠ (.slice Ao37 y406.length co37 : Value).ownBlock ∧ some k_ ≠ (.slice Ao48 y424.length co48 : Value).ownBlock)) (by (with_reducible repeat (first | apply Kd.Ra | apply Kd.Rn | apply Kd.Rd)); exact Kd.R_mono HO417.out (fun _ hk => ⟨⟨hk.1.1.1, ⟨hk.1.1.2.1, ⟨hk.1.1.2.2.1, ⟨hk.1.1.2.2.2, hk.1.2⟩⟩⟩⟩, hk.2⟩)) hg hat); have n8_ := Aside0.mk (Kd.R_over' (by (with_reducible repeat (first | apply Kd.Ra | apply Kd.Rn | apply Kd.Rd)); exact HO420.out) (Kd.R_typed (by (with_reducible repeat (first | apply Kd.Ra | apply Kd.Rn | apply Kd.Rd)); exact HO432.out)) (by decide) hg); have n9_ := Aside0.mk (Kd.R_after (ok := (fun k_ => some k_ ≠ (.slice Ao26 t383.length co26 : Value).ownBlock ∧ some k_ ≠ (.slice Ao27 y390.length co27 : Value).ownBlock ∧ some k_ ≠ (.slice Ao32 y397.length co32 : Value).ownBlock ∧ some k_ ≠ (.slice Ao37 y406.length co37 : Value).ownBlock ∧ some k_ ≠ (.slice Ao42 y415.length co42 : Value).ownBlock)) (by (with_reducible repeat (first | apply Kd.Ra | apply Kd.Rn | apply Kd.Rd)); exact HO426.out) hg hat); have n10_ := Aside0.mk (Kd.R_over' (by (with_reducible repeat (first | apply Kd.Ra | apply Kd.Rn | apply Kd.Rd)); exact HO429.out) (Kd.R_typed (by (with_reducible repeat (first | apply Kd.Ra | apply Kd.Rn | apply Kd.Rd)); exact HO432.out)) (by decide) hg); have n11_ := Aside0.mk (hb); have n12_ := Aside0.mk (ho); clear HO385; clear BK386; clear HO392; clear HO399; clear HO402; clear HO408; clear HO411; clear HO417; clear HO420; clear HO426; clear HO429; clear HB; clear HO432; have HO385 := n0_; have BK386 := n1_; have HO392 := n2_; have HO399 := n3_; have HO402 := n4_; have HO408 := n5_; have HO411 := n6_; have HO417 := n7_; have HO420 := n8_; have HO426 := n9_; have HO429 := n10_; have HB := n11_; have HO435 := n12_; clear n0_ n1_ n2_ n3_ n4_ n5_ n6_ n7_ n8_ n9_ n10_ n11_ n12_; clear ho hb hg hat; obtain ⟨Ao54, co54, eo54⟩ := Kd.R_slice HO435.out; subst eo54) | ((with_reducible refine gate_callee (f := 40) rfl ?_); refine goesL_ (some 47) rfl rfl Try.func40 (by kernel_rfl) rfl #[.slice Ao54 y433.length co54] rfl (by (try simp only [List.map_toArray, List.map_cons, List.map_nil]); first | done | rfl | (simp only [List.length_drop, List.length_take]; rfl)) ?_; (with_reducible refine (impl_IdleCells.calls k _ _ y433 t436 _ ?side1 ?side2 A17.out).mono ?_); (case side1 => repeat (first | exact (Kd.R_reads' HO435.out).2.2 | (with_reducible refine Kd.Ca ?_ _) | (with_reducible refine Kd.Cn ?_ _) | (with_reducible refine Kd.Cd ?_))); (case side2 => exact (Kd.R_reads' HO435.out).2.1); rintro e w55 ⟨v437, rfl, ho0, hb⟩; refine ⟨_, rfl, ?_⟩; have n0_ := Aside0.mk (Kd.Rb (by (with_reducible repeat (first | apply Kd.Ra | apply Kd.Rn | apply Kd.Rd)); exact HO385.out) hb); have n1_ := Aside0.mk (Kd.Rb (by (with_reducible repeat (first | apply Kd.Ra | apply Kd.Rn | apply Kd.Rd)); exact HO392.out) hb); have n2_ := Aside0.mk (Kd.Rb (by (with_reducible repeat (first | apply Kd.Ra | apply Kd.Rn | apply Kd.Rd)); exact HO399.out) hb); have n3_ := Aside0.mk (Kd.R_elder' (by (with_reducible repeat (first | apply Kd.Ra | apply Kd.Rn | apply Kd.Rd)); exact HO402.out) (Kd.R_base ho0) hb); have n4_ := Aside0.mk (Kd.Rb (by (with_reducible repeat (first | apply Kd.Ra | apply Kd.Rn | apply Kd.Rd)); exact HO408.out) hb); have n5_ := Aside0.mk (Kd.R_elder' (by (with_reducible repeat (first | apply Kd.Ra | apply Kd.Rn | apply Kd.Rd)); exact HO411.out) (Kd.R_base ho0) hb); have n6_ := Aside0.mk (Kd.Rb (by (with_reducible repeat (first | apply Kd.Ra | apply Kd.Rn | apply Kd.Rd)); exact HO417.out) hb); have n7_ := Aside0.mk (Kd.R_elder' (by (with_reducible repeat (first | apply Kd.Ra | apply Kd.Rn | apply Kd.Rd)); exact HO420.out) (Kd.R_base ho0) hb); have n8_ := Aside0.mk (Kd.Rb (by (with_reducible repeat (first | apply Kd.Ra | apply Kd.Rn | apply Kd.Rd)); exact HO426.out) hb); have n9_ := Aside0.mk (Kd.R_elder' (by (with_reducible repeat (first | apply Kd.Ra | apply Kd.Rn | apply Kd.Rd)); exact HO429.out) (Kd.R_base ho0) hb); have n10_ := Aside0.mk (Kd.Rb (by (with_reducible repeat (first | apply Kd.Ra | apply Kd.Rn | apply Kd.Rd)); exact HO435.out) hb); have n11_ := Aside0.mk (Kd.R_lower (Kd.R_new' (Kd.R_new' (Kd.R_new' (Kd.R_new' ho0 (Kd.R_lt (by (with_reducible repeat (first | apply Kd.Ra | apply Kd.Rn | apply Kd.Rd)); exact HO402.out))) (Kd.R_lt (by (with_reducible repeat (first | apply Kd.Ra | apply Kd.Rn | apply Kd.Rd)); exact HO411.out))) (Kd.R_lt (by (with_reducible repeat (first | apply Kd.Ra | apply Kd.Rn | apply Kd.Rd)); exact HO420.out))) (Kd.R_lt (by (with_reducible repeat (first | apply Kd.Ra | apply Kd.Rn | apply Kd.Rd)); exact HO429.out))) (below_size (by repeat (first | (with_reducible first | exact HB.out | apply wa | apply wN | apply wd | refine ws ?_ GE386.out) | exact HB.out)))); have n12_ := Aside0.mk (bb (g := gb386) (by first | (with_reducible exact BK386.out) | (with_reducible exact bN BK386.out _) | (with_reducible exact bd BK386.out) | ((with_reducible repeat first | apply bN | apply bd | apply ba); exact BK386.out)) hb); have n13_ := Aside0.mk (below_step (by repeat (first | (with_reducible first | exact HB.out | apply wa | apply wN | apply wd | refine ws ?_ GE386.out) | exact HB.out)) hb); clear HO385; clear HO392; clear HO399; clear HO402; clear HO408; clear HO411; clear HO417; clear HO420; clear HO426; clear HO429; clear HO435; clear BK386; clear HB; have HO385 := n0_; have HO392 := n1_; have HO399 := n2_; have HO402 := n3_; have HO408 := n4_; have HO411 := n5_; have HO417 := n6_; have HO420 := n7_; have HO426 := n8_; have HO429 := n9_; have HO435 := n10_; have HO438 := n11_; have BK386 := n12_; have HB := n13_; clear n0_ n1_ n2_ n3_ n4_ n5_ n6_ n7_ n8_ n9_ n10_ n11_ n12_ n13_; (try clear hb); (try clear hb2); (try clear hk); (try clear hi); (try clear ho0)))
  go_loopg [9] k (fun kq v9 w' => ∃ (x9_1 : Int), v9 = .int .i64 x9_1 ∧ Aside0 (laws_FnTeams.l0 kq t383 t400 t409 (wrap64 ((t418.length : Int) + (t427.length : Int))) t436 x9_1 t380 t381 t382 = some r) ∧ Aside0 (kq ≤ k) ∧ Aside0 (Kd.R k84 84 w' w.heap.size (fun _ => True) (.slice Ao26 t383.length co26) t383) ∧ Aside0 (Kd.R (Kd.int .i64) 3 w' w.heap.size (fun k_ => some k_ ≠ (v410 : Value).ownBlock ∧ some k_ ≠ (v437 : Value).ownBlock) v401 t400) ∧ Aside0 (Kd.R (Kd.int .i64) 3 w' w.heap.size (fun k_ => some k_ ≠ (v401 : Value).ownBlock ∧ some k_ ≠ (v437 : Value).ownBlock) v410 t409) ∧ Aside0 (Kd.R (Kd.int .i64) 3 w' w.heap.size (fun k_ => some k_ ≠ (v401 : Value).ownBlock ∧ some k_ ≠ (v410 : Value).ownBlock) v437 t436) ∧ Aside0 (w'.heap[gb386]? = some (.cells #[.int .i64 t380, .int .i64 t381, .string t382] 27 (0, 0))) ∧ Aside0 (Below w.heap.size w w'))
  case atStart => exact ⟨(0), (by first | rfl | (simp; done) | (simp [*]; done)), H', ⟨Nat.le_refl _⟩, ⟨by (with_reducible repeat (first | apply Kd.Ra | apply Kd.Rn | apply Kd.Rd)); exact Kd.R_mono HO385.out (fun _ hk => trivial)⟩, ⟨by (with_reducible repeat (first | apply Kd.Ra | apply Kd.Rn | apply Kd.Rd)); exact Kd.R_mono HO402.out (fun _ hk => ⟨hk.1.1.1.2, hk.2⟩)⟩, ⟨by (with_reducible repeat (first | apply Kd.Ra | apply Kd.Rn | apply Kd.Rd)); exact Kd.R_mono HO411.out (fun _ hk => ⟨hk.1.1.1.2, hk.2⟩)⟩, ⟨by (with_reducible repeat (first | apply Kd.Ra | apply Kd.Rn | apply Kd.Rd)); exact Kd.R_mono HO438.out (fun _ hk => ⟨hk.1.1.1.2, hk.1.1.2⟩)⟩, ⟨by (with_reducible repeat first | apply bN | apply bd | apply ba); exact BK386.out⟩, ⟨by repeat (first | (with_reducible first | exact HB.out | apply wa | apply wN | apply wd | refine ws ?_ GE386.out) | exact HB.out)⟩⟩
  case round =>
    clear H'
    try clear c1
    try clear p2
    try clear c3
    try clear c4
    try clear c5
    try clear p6
    try clear c7
    try clear c8
    try clear c10
    try clear c12
    try clear c14
    try clear c16
    try clear c35
    try clear c36
    try clear c37
    try clear c38
    try clear c39
    try clear c40
    try clear hcz20_0
    try clear hcz20_1
    try clear hcz20_2
    try clear hfz20_0
    try clear hfz20_1
    try clear hfz20_2
    obtain ⟨x9_1, rfl, HA, HK1, HO_4, HO_5, HO_6, HO_8, BK386, HB⟩ := hrel
    cases gk with
    | zero => exact absurd HA.out (by simp [laws_FnTeams.l0])
    | succ k1 =>
      have H := HA.out
      clear HA
      simp only [laws_FnTeams.l0] at H
      by_cases c56 : x9_1 < (t382.size : Int)
      rotate_left
      · rw [if_neg c56] at H
        have c56b0 : decide (x9_1 < (t382.size : Int)) = false := decide_eq_false c56
        clear c56
        obtain rfl := Option.some.inj H
        have hcz508_0 : wr.cell? ⟨gb386, 0, none⟩ = some (.int .i64 t380) := (bc BK386.out 0).trans rfl
        have hcz508_1 : wr.cell? ⟨gb386, 1, none⟩ = some (.int .i64 t381) := (bc BK386.out 1).trans rfl
        have hcz508_2 : wr.cell? ⟨gb386, 2, none⟩ = some (.string t382) := (bc BK386.out 2).trans rfl
        have hfz508_0 := bz BK386.out 0
        have hfz508_1 := bz BK386.out 1
        have hfz508_2 := bz BK386.out 2
        obtain ⟨Ao509, co509, eo509⟩ := Kd.R_slice HO_5.out
        subst eo509
        obtain ⟨Ao510, co510, eo510⟩ := Kd.R_slice HO_6.out
        subst eo510
        go_wp2
        go_ret
        exact ⟨by first | rfl | (simp [errW_none, errW_some] <;> rfl) | (simp [*, errW_none, errW_some] <;> rfl), by repeat (first | (with_reducible first | exact HB.out | apply wa | apply wN | apply wd | refine ws ?_ GE386.out) | exact HB.out)⟩
      rw [if_pos c56] at H
      have c56b0 : decide (x9_1 < (t382.size : Int)) = true := decide_eq_true c56
      clear c56
      obtain ⟨y439, hy439⟩ : ∃ y_ : List (S84), y_ = (([] : List (S84))) := ⟨_, rfl⟩
      replace H : (if y439.length + t383.length < 4398046511104 then ((impl_HolderOf.f k1 (y439 ++ t383) x9_1).bind fun t445 => ((some (([] : List (S84)) : List (S84))).bind fun y446 => (if y446.length + t383.length < 4398046511104 then ((impl_RobotAt.f (y446 ++ t383) t445).bind fun t452 => ((laws_has.f k1 t400 x9_1).bind fun t453 => (if t453 = true then (if ((decide (t445 ≥ 0)) != true) = true then (none) else ((laws_has.f k1 t400 x9_1).bind fun t454 => (if t454 = true then ((laws_has.f k1 t409 x9_1).bind fun t455 => (if t455 = true then (none) else (if t445 ≥ 0 then (if t452 < 0 then (none) else (if 0 ≤ t452 then (if t452 < (t383.length : Int) then (if ((rd_T84 t383 t452).f1) = x9_1 then ((laws_has.f k1 t436 x9_1).bind fun t457 => (if t457 = true then (if t445 < 0 then (none) else (if (rd_T84 t383 t452).f3 = true then (none) else (if ((rd_T84 t383 t452).f2) = (-1) then (laws_FnTeams.l0 k1 t383 t400 t409 (wrap64 ((t418.length : Int) + (t427.length : Int))) t436 (wrap64 (x9_1 + 1)) t380 t381 t382) else (none)))) else (laws_FnTeams.l0 k1 t383 t400 t409 (wrap64 ((t418.length : Int) + (t427.length : Int))) t436 (wrap64 (x9_1 + 1)) t380 t381 t382))) else (if ((rd_T84 t383 t452).f2) = x9_1 then ((laws_has.f k1 t436 x9_1).bind fun t461 => (if t461 = true then (if t445 < 0 then (none) else (if (rd_T84 t383 t452).f3 = true then (none) else (if ((rd_T84 t383 t452).f2) = (-1) then (laws_FnTeams.l0 k1 t383 t400 t409 (wrap64 ((t418.length : Int) + (t427.length : Int))) t436 (wrap64 (x9_1 + 1)) t380 t381 t382) else (none)))) else (laws_FnTeams.l0 k1 t383 t400 t409 (wrap64 ((t418.length : Int) + (t427.length : Int))) t436 (wrap64 (x9_1 + 1)) t380 t381 t382))) else (none))) else (none)) else (none))) else ((laws_has.f k1 t436 x9_1).bind fun t464 => (if t464 = true then (if t445 < 0 then (none) else (if 0 ≤ t452 then (if t452 < (t383.length : Int) then (if (rd_T84 t383 t452).f3 = true then (none) else (if ((rd_T84 t383 t452).f2) = (-1) then (laws_FnTeams.l0 k1 t383 t400 t409 (wrap64 ((t418.length : Int) + (t427.length : Int))) t436 (wrap64 (x9_1 + 1)) t380 t381 t382) else (none))) else (none)) else (none))) else (laws_FnTeams.l0 k1 t383 t400 t409 (wrap64 ((t418.length : Int) + (t427.length : Int))) t436 (wrap64 (x9_1 + 1)) t380 t381 t382)))))) else (if t445 ≥ 0 then (if t452 < 0 then (none) else (if 0 ≤ t452 then (if t452 < (t383.length : Int) then (if ((rd_T84 t383 t452).f1) = x9_1 then ((laws_has.f k1 t436 x9_1).bind fun t468 => (if t468 = true then (if t445 < 0 then (none) else (if (rd_T84 t383 t452).f3 = true then (none) else (if ((rd_T84 t383 t452).f2) = (-1) then (laws_FnTeams.l0 k1 t383 t400 t409 (wrap64 ((t418.length : Int) + (t427.length : Int))) t436 (wrap64 (x9_1 + 1)) t380 t381 t382) else (none)))) else (laws_FnTeams.l0 k1 t383 t400 t409 (wrap64 ((t418.length : Int) + (t427.length : Int))) t436 (wrap64 (x9_1 + 1)) t380 t381 t382))) else (if ((rd_T84 t383 t452).f2) = x9_1 then ((laws_has.f k1 t436 x9_1).bind fun t472 => (if t472 = true then (if t445 < 0 then (none) else (if (rd_T84 t383 t452).f3 = true then (none) else (if ((rd_T84 t383 t452).f2) = (-1) then (laws_FnTeams.l0 k1 t383 t400 t409 (wrap64 ((t418.length : Int) + (t427.length : Int))) t436 (wrap64 (x9_1 + 1)) t380 t381 t382) else (none)))) else (laws_FnTeams.l0 k1 t383 t400 t409 (wrap64 ((t418.length : Int) + (t427.length : Int))) t436 (wrap64 (x9_1 + 1)) t380 t381 t382))) else (none))) else (none)) else (none))) else ((laws_has.f k1 t436 x9_1).bind fun t475 => (if t475 = true then (if t445 < 0 then (none) else (if 0 ≤ t452 then (if t452 < (t383.length : Int) then (if (rd_T84 t383 t452).f3 = true then (none) else (if ((rd_T84 t383 t452).f2) = (-1) then (laws_FnTeams.l0 k1 t383 t400 t409 (wrap64 ((t418.length : Int) + (t427.length : Int))) t436 (wrap64 (x9_1 + 1)) t380 t381 t382) else (none))) else (none)) else (none))) else (laws_FnTeams.l0 k1 t383 t400 t409 (wrap64 ((t418.length : Int) + (t427.length : Int))) t436 (wrap64 (x9_1 + 1)) t380 t381 t382))))))) else ((laws_has.f k1 t409 x9_1).bind fun t478 => (if ((decide (t445 ≥ 0)) != t478) = true then (none) else ((laws_has.f k1 t400 x9_1).bind fun t479 => (if t479 = true then ((laws_has.f k1 t409 x9_1).bind fun t480 => (if t480 = true then (none) else (if t445 ≥ 0 then (if t452 < 0 then (none) else (if 0 ≤ t452 then (if t452 < (t383.length : Int) then (if ((rd_T84 t383 t452).f1) = x9_1 then ((laws_has.f k1 t436 x9_1).bind fun t482 => (if t482 = true then (if t445 < 0 then (none) else (if (rd_T84 t383 t452).f3 = true then (none) else (if ((rd_T84 t383 t452).f2) = (-1) then (laws_FnTeams.l0 k1 t383 t400 t409 (wrap64 ((t418.length : Int) + (t427.length : Int))) t436 (wrap64 (x9_1 + 1)) t380 t381 t382) else (none)))) else (laws_FnTeams.l0 k1 t383 t400 t409 (wrap64 ((t418.length : Int) + (t427.length : Int))) t436 (wrap64 (x9_1 + 1)) t380 t381 t382))) else (if ((rd_T84 t383 t452).f2) = x9_1 then ((laws_has.f k1 t436 x9_1).bind fun t486 => (if t486 = true then (if t445 < 0 then (none) else (if (rd_T84 t383 t452).f3 = true then (none) else (if ((rd_T84 t383 t452).f2) = (-1) then (laws_FnTeams.l0 k1 t383 t400 t409 (wrap64 ((t418.length : Int) + (t427.length : Int))) t436 (wrap64 (x9_1 + 1)) t380 t381 t382) else (none)))) else (laws_FnTeams.l0 k1 t383 t400 t409 (wrap64 ((t418.length : Int) + (t427.length : Int))) t436 (wrap64 (x9_1 + 1)) t380 t381 t382))) else (none))) else (none)) else (none))) else ((laws_has.f k1 t436 x9_1).bind fun t489 => (if t489 = true then (if t445 < 0 then (none) else (if 0 ≤ t452 then (if t452 < (t383.length : Int) then (if (rd_T84 t383 t452).f3 = true then (none) else (if ((rd_T84 t383 t452).f2) = (-1) then (laws_FnTeams.l0 k1 t383 t400 t409 (wrap64 ((t418.length : Int) + (t427.length : Int))) t436 (wrap64 (x9_1 + 1)) t380 t381 t382) else (none))) else (none)) else (none))) else (laws_FnTeams.l0 k1 t383 t400 t409 (wrap64 ((t418.length : Int) + (t427.length : Int))) t436 (wrap64 (x9_1 + 1)) t380 t381 t382)))))) else (if t445 ≥ 0 then (if t452 < 0 then (none) else (if 0 ≤ t452 then (if t452 < (t383.length : Int) then (if ((rd_T84 t383 t452).f1) = x9_1 then ((laws_has.f k1 t436 x9_1).bind fun t493 => (if t493 = true then (if t445 < 0 then (none) else (if (rd_T84 t383 t452).f3 = true then (none) else (if ((rd_T84 t383 t452).f2) = (-1) then (laws_FnTeams.l0 k1 t383 t400 t409 (wrap64 ((t418.length : Int) + (t427.length : Int))) t436 (wrap64 (x9_1 + 1)) t380 t381 t382) else (none)))) else (laws_FnTeams.l0 k1 t383 t400 t409 (wrap64 ((t418.length : Int) + (t427.length : Int))) t436 (wrap64 (x9_1 + 1)) t380 t381 t382))) else (if ((rd_T84 t383 t452).f2) = x9_1 then ((laws_has.f k1 t436 x9_1).bind fun t497 => (if t497 = true then (if t445 < 0 then (none) else (if (rd_T84 t383 t452).f3 = true then (none) else (if ((rd_T84 t383 t452).f2) = (-1) then (laws_FnTeams.l0 k1 t383 t400 t409 (wrap64 ((t418.length : Int) + (t427.length : Int))) t436 (wrap64 (x9_1 + 1)) t380 t381 t382) else (none)))) else (laws_FnTeams.l0 k1 t383 t400 t409 (wrap64 ((t418.length : Int) + (t427.length : Int))) t436 (wrap64 (x9_1 + 1)) t380 t381 t382))) else (none))) else (none)) else (none))) else ((laws_has.f k1 t436 x9_1).bind fun t500 => (if t500 = true then (if t445 < 0 then (none) else (if 0 ≤ t452 then (if t452 < (t383.length : Int) then (if (rd_T84 t383 t452).f3 = true then (none) else (if ((rd_T84 t383 t452).f2) = (-1) then (laws_FnTeams.l0 k1 t383 t400 t409 (wrap64 ((t418.length : Int) + (t427.length : Int))) t436 (wrap64 (x9_1 + 1)) t380 t381 t382) else (none))) else (none)) else (none))) else (laws_FnTeams.l0 k1 t383 t400 t409 (wrap64 ((t418.length : Int) + (t427.length : Int))) t436 (wrap64 (x9_1 + 1)) t380 t381 t382))))))))))) else (none)))) else (none)) = some r := by first | (rw [hy439]; with_reducible exact H) | (have H2_ := (Option.bind_some _ _).symm.trans H; rw [hy439]; with_reducible exact H2_) | (have H2_ := (Option.bind_some _ _).symm.trans H; with_reducible exact H2_) | with_reducible exact H | (rw [hy439]; exact H) | exact H
      have Ny439 := Aside0.mk hy439
      clear hy439
      by_cases c57 : y439.length + t383.length < 4398046511104
      rotate_left
      · rw [if_neg c57] at H
        exact absurd H (by simp)
      rw [if_pos c57] at H
      have LMc57 := Aside0.mk c57
      clear c57
      obtain ⟨y442, hy442⟩ : ∃ y_ : List (S84), y_ = (y439 ++ t383) := ⟨_, rfl⟩
      replace H : ((impl_HolderOf.f k1 y442 x9_1).bind fun t445 => ((some (([] : List (S84)) : List (S84))).bind fun y446 => (if y446.length + t383.length < 4398046511104 then ((impl_RobotAt.f (y446 ++ t383) t445).bind fun t452 => ((laws_has.f k1 t400 x9_1).bind fun t453 => (if t453 = true then (if ((decide (t445 ≥ 0)) != true) = true then (none) else ((laws_has.f k1 t400 x9_1).bind fun t454 => (if t454 = true then ((laws_has.f k1 t409 x9_1).bind fun t455 => (if t455 = true then (none) else (if t445 ≥ 0 then (if t452 < 0 then (none) else (if 0 ≤ t452 then (if t452 < (t383.length : Int) then (if ((rd_T84 t383 t452).f1) = x9_1 then ((laws_has.f k1 t436 x9_1).bind fun t457 => (if t457 = true then (if t445 < 0 then (none) else (if (rd_T84 t383 t452).f3 = true then (none) else (if ((rd_T84 t383 t452).f2) = (-1) then (laws_FnTeams.l0 k1 t383 t400 t409 (wrap64 ((t418.length : Int) + (t427.length : Int))) t436 (wrap64 (x9_1 + 1)) t380 t381 t382) else (none)))) else (laws_FnTeams.l0 k1 t383 t400 t409 (wrap64 ((t418.length : Int) + (t427.length : Int))) t436 (wrap64 (x9_1 + 1)) t380 t381 t382))) else (if ((rd_T84 t383 t452).f2) = x9_1 then ((laws_has.f k1 t436 x9_1).bind fun t461 => (if t461 = true then (if t445 < 0 then (none) else (if (rd_T84 t383 t452).f3 = true then (none) else (if ((rd_T84 t383 t452).f2) = (-1) then (laws_FnTeams.l0 k1 t383 t400 t409 (wrap64 ((t418.length : Int) + (t427.length : Int))) t436 (wrap64 (x9_1 + 1)) t380 t381 t382) else (none)))) else (laws_FnTeams.l0 k1 t383 t400 t409 (wrap64 ((t418.length : Int) + (t427.length : Int))) t436 (wrap64 (x9_1 + 1)) t380 t381 t382))) else (none))) else (none)) else (none))) else ((laws_has.f k1 t436 x9_1).bind fun t464 => (if t464 = true then (if t445 < 0 then (none) else (if 0 ≤ t452 then (if t452 < (t383.length : Int) then (if (rd_T84 t383 t452).f3 = true then (none) else (if ((rd_T84 t383 t452).f2) = (-1) then (laws_FnTeams.l0 k1 t383 t400 t409 (wrap64 ((t418.length : Int) + (t427.length : Int))) t436 (wrap64 (x9_1 + 1)) t380 t381 t382) else (none))) else (none)) else (none))) else (laws_FnTeams.l0 k1 t383 t400 t409 (wrap64 ((t418.length : Int) + (t427.length : Int))) t436 (wrap64 (x9_1 + 1)) t380 t381 t382)))))) else (if t445 ≥ 0 then (if t452 < 0 then (none) else (if 0 ≤ t452 then (if t452 < (t383.length : Int) then (if ((rd_T84 t383 t452).f1) = x9_1 then ((laws_has.f k1 t436 x9_1).bind fun t468 => (if t468 = true then (if t445 < 0 then (none) else (if (rd_T84 t383 t452).f3 = true then (none) else (if ((rd_T84 t383 t452).f2) = (-1) then (laws_FnTeams.l0 k1 t383 t400 t409 (wrap64 ((t418.length : Int) + (t427.length : Int))) t436 (wrap64 (x9_1 + 1)) t380 t381 t382) else (none)))) else (laws_FnTeams.l0 k1 t383 t400 t409 (wrap64 ((t418.length : Int) + (t427.length : Int))) t436 (wrap64 (x9_1 + 1)) t380 t381 t382))) else (if ((rd_T84 t383 t452).f2) = x9_1 then ((laws_has.f k1 t436 x9_1).bind fun t472 => (if t472 = true then (if t445 < 0 then (none) else (if (rd_T84 t383 t452).f3 = true then (none) else (if ((rd_T84 t383 t452).f2) = (-1) then (laws_FnTeams.l0 k1 t383 t400 t409 (wrap64 ((t418.length : Int) + (t427.length : Int))) t436 (wrap64 (x9_1 + 1)) t380 t381 t382) else (none)))) else (laws_FnTeams.l0 k1 t383 t400 t409 (wrap64 ((t418.length : Int) + (t427.length : Int))) t436 (wrap64 (x9_1 + 1)) t380 t381 t382))) else (none))) else (none)) else (none))) else ((laws_has.f k1 t436 x9_1).bind fun t475 => (if t475 = true then (if t445 < 0 then (none) else (if 0 ≤ t452 then (if t452 < (t383.length : Int) then (if (rd_T84 t383 t452).f3 = true then (none) else (if ((rd_T84 t383 t452).f2) = (-1) then (laws_FnTeams.l0 k1 t383 t400 t409 (wrap64 ((t418.length : Int) + (t427.length : Int))) t436 (wrap64 (x9_1 + 1)) t380 t381 t382) else (none))) else (none)) else (none))) else (laws_FnTeams.l0 k1 t383 t400 t409 (wrap64 ((t418.length : Int) + (t427.length : Int))) t436 (wrap64 (x9_1 + 1)) t380 t381 t382))))))) else ((laws_has.f k1 t409 x9_1).bind fun t478 => (if ((decide (t445 ≥ 0)) != t478) = true then (none) else ((laws_has.f k1 t400 x9_1).bind fun t479 => (if t479 = true then ((laws_has.f k1 t409 x9_1).bind fun t480 => (if t480 = true then (none) else (if t445 ≥ 0 then (if t452 < 0 then (none) else (if 0 ≤ t452 then (if t452 < (t383.length : Int) then (if ((rd_T84 t383 t452).f1) = x9_1 then ((laws_has.f k1 t436 x9_1).bind fun t482 => (if t482 = true then (if t445 < 0 then (none) else (if (rd_T84 t383 t452).f3 = true then (none) else (if ((rd_T84 t383 t452).f2) = (-1) then (laws_FnTeams.l0 k1 t383 t400 t409 (wrap64 ((t418.length : Int) + (t427.length : Int))) t436 (wrap64 (x9_1 + 1)) t380 t381 t382) else (none)))) else (laws_FnTeams.l0 k1 t383 t400 t409 (wrap64 ((t418.length : Int) + (t427.length : Int))) t436 (wrap64 (x9_1 + 1)) t380 t381 t382))) else (if ((rd_T84 t383 t452).f2) = x9_1 then ((laws_has.f k1 t436 x9_1).bind fun t486 => (if t486 = true then (if t445 < 0 then (none) else (if (rd_T84 t383 t452).f3 = true then (none) else (if ((rd_T84 t383 t452).f2) = (-1) then (laws_FnTeams.l0 k1 t383 t400 t409 (wrap64 ((t418.length : Int) + (t427.length : Int))) t436 (wrap64 (x9_1 + 1)) t380 t381 t382) else (none)))) else (laws_FnTeams.l0 k1 t383 t400 t409 (wrap64 ((t418.length : Int) + (t427.length : Int))) t436 (wrap64 (x9_1 + 1)) t380 t381 t382))) else (none))) else (none)) else (none))) else ((laws_has.f k1 t436 x9_1).bind fun t489 => (if t489 = true then (if t445 < 0 then (none) else (if 0 ≤ t452 then (if t452 < (t383.length : Int) then (if (rd_T84 t383 t452).f3 = true then (none) else (if ((rd_T84 t383 t452).f2) = (-1) then (laws_FnTeams.l0 k1 t383 t400 t409 (wrap64 ((t418.length : Int) + (t427.length : Int))) t436 (wrap64 (x9_1 + 1)) t380 t381 t382) else (none))) else (none)) else (none))) else (laws_FnTeams.l0 k1 t383 t400 t409 (wrap64 ((t418.length : Int) + (t427.length : Int))) t436 (wrap64 (x9_1 + 1)) t380 t381 t382)))))) else (if t445 ≥ 0 then (if t452 < 0 then (none) else (if 0 ≤ t452 then (if t452 < (t383.length : Int) then (if ((rd_T84 t383 t452).f1) = x9_1 then ((laws_has.f k1 t436 x9_1).bind fun t493 => (if t493 = true then (if t445 < 0 then (none) else (if (rd_T84 t383 t452).f3 = true then (none) else (if ((rd_T84 t383 t452).f2) = (-1) then (laws_FnTeams.l0 k1 t383 t400 t409 (wrap64 ((t418.length : Int) + (t427.length : Int))) t436 (wrap64 (x9_1 + 1)) t380 t381 t382) else (none)))) else (laws_FnTeams.l0 k1 t383 t400 t409 (wrap64 ((t418.length : Int) + (t427.length : Int))) t436 (wrap64 (x9_1 + 1)) t380 t381 t382))) else (if ((rd_T84 t383 t452).f2) = x9_1 then ((laws_has.f k1 t436 x9_1).bind fun t497 => (if t497 = true then (if t445 < 0 then (none) else (if (rd_T84 t383 t452).f3 = true then (none) else (if ((rd_T84 t383 t452).f2) = (-1) then (laws_FnTeams.l0 k1 t383 t400 t409 (wrap64 ((t418.length : Int) + (t427.length : Int))) t436 (wrap64 (x9_1 + 1)) t380 t381 t382) else (none)))) else (laws_FnTeams.l0 k1 t383 t400 t409 (wrap64 ((t418.length : Int) + (t427.length : Int))) t436 (wrap64 (x9_1 + 1)) t380 t381 t382))) else (none))) else (none)) else (none))) else ((laws_has.f k1 t436 x9_1).bind fun t500 => (if t500 = true then (if t445 < 0 then (none) else (if 0 ≤ t452 then (if t452 < (t383.length : Int) then (if (rd_T84 t383 t452).f3 = true then (none) else (if ((rd_T84 t383 t452).f2) = (-1) then (laws_FnTeams.l0 k1 t383 t400 t409 (wrap64 ((t418.length : Int) + (t427.length : Int))) t436 (wrap64 (x9_1 + 1)) t380 t381 t382) else (none))) else (none)) else (none))) else (laws_FnTeams.l0 k1 t383 t400 t409 (wrap64 ((t418.length : Int) + (t427.length : Int))) t436 (wrap64 (x9_1 + 1)) t380 t381 t382))))))))))) else (none)))) = some r := by first | (rw [hy442]; with_reducible exact H) | (have H2_ := (Option.bind_some _ _).symm.trans H; rw [hy442]; with_reducible exact H2_) | (have H2_ := (Option.bind_some _ _).symm.trans H; with_reducible exact H2_) | with_reducible exact H | (rw [hy442]; exact H) | exact H
      have Ny442 := Aside0.mk hy442
      clear hy442
      replace H := Option.bind_eq_some_iff.mp H
      obtain ⟨t445, A580, H⟩ := H
      try dsimp only at H
      have A58 := Aside0.mk A580
      clear A580
      obtain ⟨y446, hy446⟩ : ∃ y_ : List (S84), y_ = (([] : List (S84))) := ⟨_, rfl⟩
      replace H : (if y446.length + t383.length < 4398046511104 then ((impl_RobotAt.f (y446 ++ t383) t445).bind fun t452 => ((laws_has.f k1 t400 x9_1).bind fun t453 => (if t453 = true then (if ((decide (t445 ≥ 0)) != true) = true then (none) else ((laws_has.f k1 t400 x9_1).bind fun t454 => (if t454 = true then ((laws_has.f k1 t409 x9_1).bind fun t455 => (if t455 = true then (none) else (if t445 ≥ 0 then (if t452 < 0 then (none) else (if 0 ≤ t452 then (if t452 < (t383.length : Int) then (if ((rd_T84 t383 t452).f1) = x9_1 then ((laws_has.f k1 t436 x9_1).bind fun t457 => (if t457 = true then (if t445 < 0 then (none) else (if (rd_T84 t383 t452).f3 = true then (none) else (if ((rd_T84 t383 t452).f2) = (-1) then (laws_FnTeams.l0 k1 t383 t400 t409 (wrap64 ((t418.length : Int) + (t427.length : Int))) t436 (wrap64 (x9_1 + 1)) t380 t381 t382) else (none)))) else (laws_FnTeams.l0 k1 t383 t400 t409 (wrap64 ((t418.length : Int) + (t427.length : Int))) t436 (wrap64 (x9_1 + 1)) t380 t381 t382))) else (if ((rd_T84 t383 t452).f2) = x9_1 then ((laws_has.f k1 t436 x9_1).bind fun t461 => (if t461 = true then (if t445 < 0 then (none) else (if (rd_T84 t383 t452).f3 = true then (none) else (if ((rd_T84 t383 t452).f2) = (-1) then (laws_FnTeams.l0 k1 t383 t400 t409 (wrap64 ((t418.length : Int) + (t427.length : Int))) t436 (wrap64 (x9_1 + 1)) t380 t381 t382) else (none)))) else (laws_FnTeams.l0 k1 t383 t400 t409 (wrap64 ((t418.length : Int) + (t427.length : Int))) t436 (wrap64 (x9_1 + 1)) t380 t381 t382))) else (none))) else (none)) else (none))) else ((laws_has.f k1 t436 x9_1).bind fun t464 => (if t464 = true then (if t445 < 0 then (none) else (if 0 ≤ t452 then (if t452 < (t383.length : Int) then (if (rd_T84 t383 t452).f3 = true then (none) else (if ((rd_T84 t383 t452).f2) = (-1) then (laws_FnTeams.l0 k1 t383 t400 t409 (wrap64 ((t418.length : Int) + (t427.length : Int))) t436 (wrap64 (x9_1 + 1)) t380 t381 t382) else (none))) else (none)) else (none))) else (laws_FnTeams.l0 k1 t383 t400 t409 (wrap64 ((t418.length : Int) + (t427.length : Int))) t436 (wrap64 (x9_1 + 1)) t380 t381 t382)))))) else (if t445 ≥ 0 then (if t452 < 0 then (none) else (if 0 ≤ t452 then (if t452 < (t383.length : Int) then (if ((rd_T84 t383 t452).f1) = x9_1 then ((laws_has.f k1 t436 x9_1).bind fun t468 => (if t468 = true then (if t445 < 0 then (none) else (if (rd_T84 t383 t452).f3 = true then (none) else (if ((rd_T84 t383 t452).f2) = (-1) then (laws_FnTeams.l0 k1 t383 t400 t409 (wrap64 ((t418.length : Int) + (t427.length : Int))) t436 (wrap64 (x9_1 + 1)) t380 t381 t382) else (none)))) else (laws_FnTeams.l0 k1 t383 t400 t409 (wrap64 ((t418.length : Int) + (t427.length : Int))) t436 (wrap64 (x9_1 + 1)) t380 t381 t382))) else (if ((rd_T84 t383 t452).f2) = x9_1 then ((laws_has.f k1 t436 x9_1).bind fun t472 => (if t472 = true then (if t445 < 0 then (none) else (if (rd_T84 t383 t452).f3 = true then (none) else (if ((rd_T84 t383 t452).f2) = (-1) then (laws_FnTeams.l0 k1 t383 t400 t409 (wrap64 ((t418.length : Int) + (t427.length : Int))) t436 (wrap64 (x9_1 + 1)) t380 t381 t382) else (none)))) else (laws_FnTeams.l0 k1 t383 t400 t409 (wrap64 ((t418.length : Int) + (t427.length : Int))) t436 (wrap64 (x9_1 + 1)) t380 t381 t382))) else (none))) else (none)) else (none))) else ((laws_has.f k1 t436 x9_1).bind fun t475 => (if t475 = true then (if t445 < 0 then (none) else (if 0 ≤ t452 then (if t452 < (t383.length : Int) then (if (rd_T84 t383 t452).f3 = true then (none) else (if ((rd_T84 t383 t452).f2) = (-1) then (laws_FnTeams.l0 k1 t383 t400 t409 (wrap64 ((t418.length : Int) + (t427.length : Int))) t436 (wrap64 (x9_1 + 1)) t380 t381 t382) else (none))) else (none)) else (none))) else (laws_FnTeams.l0 k1 t383 t400 t409 (wrap64 ((t418.length : Int) + (t427.length : Int))) t436 (wrap64 (x9_1 + 1)) t380 t381 t382))))))) else ((laws_has.f k1 t409 x9_1).bind fun t478 => (if ((decide (t445 ≥ 0)) != t478) = true then (none) else ((laws_has.f k1 t400 x9_1).bind fun t479 => (if t479 = true then ((laws_has.f k1 t409 x9_1).bind fun t480 => (if t480 = true then (none) else (if t445 ≥ 0 then (if t452 < 0 then (none) else (if 0 ≤ t452 then (if t452 < (t383.length : Int) then (if ((rd_T84 t383 t452).f1) = x9_1 then ((laws_has.f k1 t436 x9_1).bind fun t482 => (if t482 = true then (if t445 < 0 then (none) else (if (rd_T84 t383 t452).f3 = true then (none) else (if ((rd_T84 t383 t452).f2) = (-1) then (laws_FnTeams.l0 k1 t383 t400 t409 (wrap64 ((t418.length : Int) + (t427.length : Int))) t436 (wrap64 (x9_1 + 1)) t380 t381 t382) else (none)))) else (laws_FnTeams.l0 k1 t383 t400 t409 (wrap64 ((t418.length : Int) + (t427.length : Int))) t436 (wrap64 (x9_1 + 1)) t380 t381 t382))) else (if ((rd_T84 t383 t452).f2) = x9_1 then ((laws_has.f k1 t436 x9_1).bind fun t486 => (if t486 = true then (if t445 < 0 then (none) else (if (rd_T84 t383 t452).f3 = true then (none) else (if ((rd_T84 t383 t452).f2) = (-1) then (laws_FnTeams.l0 k1 t383 t400 t409 (wrap64 ((t418.length : Int) + (t427.length : Int))) t436 (wrap64 (x9_1 + 1)) t380 t381 t382) else (none)))) else (laws_FnTeams.l0 k1 t383 t400 t409 (wrap64 ((t418.length : Int) + (t427.length : Int))) t436 (wrap64 (x9_1 + 1)) t380 t381 t382))) else (none))) else (none)) else (none))) else ((laws_has.f k1 t436 x9_1).bind fun t489 => (if t489 = true then (if t445 < 0 then (none) else (if 0 ≤ t452 then (if t452 < (t383.length : Int) then (if (rd_T84 t383 t452).f3 = true then (none) else (if ((rd_T84 t383 t452).f2) = (-1) then (laws_FnTeams.l0 k1 t383 t400 t409 (wrap64 ((t418.length : Int) + (t427.length : Int))) t436 (wrap64 (x9_1 + 1)) t380 t381 t382) else (none))) else (none)) else (none))) else (laws_FnTeams.l0 k1 t383 t400 t409 (wrap64 ((t418.length : Int) + (t427.length : Int))) t436 (wrap64 (x9_1 + 1)) t380 t381 t382)))))) else (if t445 ≥ 0 then (if t452 < 0 then (none) else (if 0 ≤ t452 then (if t452 < (t383.length : Int) then (if ((rd_T84 t383 t452).f1) = x9_1 then ((laws_has.f k1 t436 x9_1).bind fun t493 => (if t493 = true then (if t445 < 0 then (none) else (if (rd_T84 t383 t452).f3 = true then (none) else (if ((rd_T84 t383 t452).f2) = (-1) then (laws_FnTeams.l0 k1 t383 t400 t409 (wrap64 ((t418.length : Int) + (t427.length : Int))) t436 (wrap64 (x9_1 + 1)) t380 t381 t382) else (none)))) else (laws_FnTeams.l0 k1 t383 t400 t409 (wrap64 ((t418.length : Int) + (t427.length : Int))) t436 (wrap64 (x9_1 + 1)) t380 t381 t382))) else (if ((rd_T84 t383 t452).f2) = x9_1 then ((laws_has.f k1 t436 x9_1).bind fun t497 => (if t497 = true then (if t445 < 0 then (none) else (if (rd_T84 t383 t452).f3 = true then (none) else (if ((rd_T84 t383 t452).f2) = (-1) then (laws_FnTeams.l0 k1 t383 t400 t409 (wrap64 ((t418.length : Int) + (t427.length : Int))) t436 (wrap64 (x9_1 + 1)) t380 t381 t382) else (none)))) else (laws_FnTeams.l0 k1 t383 t400 t409 (wrap64 ((t418.length : Int) + (t427.length : Int))) t436 (wrap64 (x9_1 + 1)) t380 t381 t382))) else (none))) else (none)) else (none))) else ((laws_has.f k1 t436 x9_1).bind fun t500 => (if t500 = true then (if t445 < 0 then (none) else (if 0 ≤ t452 then (if t452 < (t383.length : Int) then (if (rd_T84 t383 t452).f3 = true then (none) else (if ((rd_T84 t383 t452).f2) = (-1) then (laws_FnTeams.l0 k1 t383 t400 t409 (wrap64 ((t418.length : Int) + (t427.length : Int))) t436 (wrap64 (x9_1 + 1)) t380 t381 t382) else (none))) else (none)) else (none))) else (laws_FnTeams.l0 k1 t383 t400 t409 (wrap64 ((t418.length : Int) + (t427.length : Int))) t436 (wrap64 (x9_1 + 1)) t380 t381 t382))))))))))) else (none)) = some r := by first | (rw [hy446]; with_reducible exact H) | (have H2_ := (Option.bind_some _ _).symm.trans H; rw [hy446]; with_reducible exact H2_) | (have H2_ := (Option.bind_some _ _).symm.trans H; with_reducible exact H2_) | with_reducible exact H | (rw [hy446]; exact H) | exact H
      have Ny446 := Aside0.mk hy446
      clear hy446
      by_cases c59 : y446.length + t383.length < 4398046511104
      rotate_left
      · rw [if_neg c59] at H
        exact absurd H (by simp)
      rw [if_pos c59] at H
      have LMc59 := Aside0.mk c59
      clear c59
      obtain ⟨y449, hy449⟩ : ∃ y_ : List (S84), y_ = (y446 ++ t383) := ⟨_, rfl⟩
      replace H : ((impl_RobotAt.f y449 t445).bind fun t452 => ((laws_has.f k1 t400 x9_1).bind fun t453 => (if t453 = true then (if ((decide (t445 ≥ 0)) != true) = true then (none) else ((laws_has.f k1 t400 x9_1).bind fun t454 => (if t454 = true then ((laws_has.f k1 t409 x9_1).bind fun t455 => (if t455 = true then (none) else (if t445 ≥ 0 then (if t452 < 0 then (none) else (if 0 ≤ t452 then (if t452 < (t383.length : Int) then (if ((rd_T84 t383 t452).f1) = x9_1 then ((laws_has.f k1 t436 x9_1).bind fun t457 => (if t457 = true then (if t445 < 0 then (none) else (if (rd_T84 t383 t452).f3 = true then (none) else (if ((rd_T84 t383 t452).f2) = (-1) then (laws_FnTeams.l0 k1 t383 t400 t409 (wrap64 ((t418.length : Int) + (t427.length : Int))) t436 (wrap64 (x9_1 + 1)) t380 t381 t382) else (none)))) else (laws_FnTeams.l0 k1 t383 t400 t409 (wrap64 ((t418.length : Int) + (t427.length : Int))) t436 (wrap64 (x9_1 + 1)) t380 t381 t382))) else (if ((rd_T84 t383 t452).f2) = x9_1 then ((laws_has.f k1 t436 x9_1).bind fun t461 => (if t461 = true then (if t445 < 0 then (none) else (if (rd_T84 t383 t452).f3 = true then (none) else (if ((rd_T84 t383 t452).f2) = (-1) then (laws_FnTeams.l0 k1 t383 t400 t409 (wrap64 ((t418.length : Int) + (t427.length : Int))) t436 (wrap64 (x9_1 + 1)) t380 t381 t382) else (none)))) else (laws_FnTeams.l0 k1 t383 t400 t409 (wrap64 ((t418.length : Int) + (t427.length : Int))) t436 (wrap64 (x9_1 + 1)) t380 t381 t382))) else (none))) else (none)) else (none))) else ((laws_has.f k1 t436 x9_1).bind fun t464 => (if t464 = true then (if t445 < 0 then (none) else (if 0 ≤ t452 then (if t452 < (t383.length : Int) then (if (rd_T84 t383 t452).f3 = true then (none) else (if ((rd_T84 t383 t452).f2) = (-1) then (laws_FnTeams.l0 k1 t383 t400 t409 (wrap64 ((t418.length : Int) + (t427.length : Int))) t436 (wrap64 (x9_1 + 1)) t380 t381 t382) else (none))) else (none)) else (none))) else (laws_FnTeams.l0 k1 t383 t400 t409 (wrap64 ((t418.length : Int) + (t427.length : Int))) t436 (wrap64 (x9_1 + 1)) t380 t381 t382)))))) else (if t445 ≥ 0 then (if t452 < 0 then (none) else (if 0 ≤ t452 then (if t452 < (t383.length : Int) then (if ((rd_T84 t383 t452).f1) = x9_1 then ((laws_has.f k1 t436 x9_1).bind fun t468 => (if t468 = true then (if t445 < 0 then (none) else (if (rd_T84 t383 t452).f3 = true then (none) else (if ((rd_T84 t383 t452).f2) = (-1) then (laws_FnTeams.l0 k1 t383 t400 t409 (wrap64 ((t418.length : Int) + (t427.length : Int))) t436 (wrap64 (x9_1 + 1)) t380 t381 t382) else (none)))) else (laws_FnTeams.l0 k1 t383 t400 t409 (wrap64 ((t418.length : Int) + (t427.length : Int))) t436 (wrap64 (x9_1 + 1)) t380 t381 t382))) else (if ((rd_T84 t383 t452).f2) = x9_1 then ((laws_has.f k1 t436 x9_1).bind fun t472 => (if t472 = true then (if t445 < 0 then (none) else (if (rd_T84 t383 t452).f3 = true then (none) else (if ((rd_T84 t383 t452).f2) = (-1) then (laws_FnTeams.l0 k1 t383 t400 t409 (wrap64 ((t418.length : Int) + (t427.length : Int))) t436 (wrap64 (x9_1 + 1)) t380 t381 t382) else (none)))) else (laws_FnTeams.l0 k1 t383 t400 t409 (wrap64 ((t418.length : Int) + (t427.length : Int))) t436 (wrap64 (x9_1 + 1)) t380 t381 t382))) else (none))) else (none)) else (none))) else ((laws_has.f k1 t436 x9_1).bind fun t475 => (if t475 = true then (if t445 < 0 then (none) else (if 0 ≤ t452 then (if t452 < (t383.length : Int) then (if (rd_T84 t383 t452).f3 = true then (none) else (if ((rd_T84 t383 t452).f2) = (-1) then (laws_FnTeams.l0 k1 t383 t400 t409 (wrap64 ((t418.length : Int) + (t427.length : Int))) t436 (wrap64 (x9_1 + 1)) t380 t381 t382) else (none))) else (none)) else (none))) else (laws_FnTeams.l0 k1 t383 t400 t409 (wrap64 ((t418.length : Int) + (t427.length : Int))) t436 (wrap64 (x9_1 + 1)) t380 t381 t382))))))) else ((laws_has.f k1 t409 x9_1).bind fun t478 => (if ((decide (t445 ≥ 0)) != t478) = true then (none) else ((laws_has.f k1 t400 x9_1).bind fun t479 => (if t479 = true then ((laws_has.f k1 t409 x9_1).bind fun t480 => (if t480 = true then (none) else (if t445 ≥ 0 then (if t452 < 0 then (none) else (if 0 ≤ t452 then (if t452 < (t383.length : Int) then (if ((rd_T84 t383 t452).f1) = x9_1 then ((laws_has.f k1 t436 x9_1).bind fun t482 => (if t482 = true then (if t445 < 0 then (none) else (if (rd_T84 t383 t452).f3 = true then (none) else (if ((rd_T84 t383 t452).f2) = (-1) then (laws_FnTeams.l0 k1 t383 t400 t409 (wrap64 ((t418.length : Int) + (t427.length : Int))) t436 (wrap64 (x9_1 + 1)) t380 t381 t382) else (none)))) else (laws_FnTeams.l0 k1 t383 t400 t409 (wrap64 ((t418.length : Int) + (t427.length : Int))) t436 (wrap64 (x9_1 + 1)) t380 t381 t382))) else (if ((rd_T84 t383 t452).f2) = x9_1 then ((laws_has.f k1 t436 x9_1).bind fun t486 => (if t486 = true then (if t445 < 0 then (none) else (if (rd_T84 t383 t452).f3 = true then (none) else (if ((rd_T84 t383 t452).f2) = (-1) then (laws_FnTeams.l0 k1 t383 t400 t409 (wrap64 ((t418.length : Int) + (t427.length : Int))) t436 (wrap64 (x9_1 + 1)) t380 t381 t382) else (none)))) else (laws_FnTeams.l0 k1 t383 t400 t409 (wrap64 ((t418.length : Int) + (t427.length : Int))) t436 (wrap64 (x9_1 + 1)) t380 t381 t382))) else (none))) else (none)) else (none))) else ((laws_has.f k1 t436 x9_1).bind fun t489 => (if t489 = true then (if t445 < 0 then (none) else (if 0 ≤ t452 then (if t452 < (t383.length : Int) then (if (rd_T84 t383 t452).f3 = true then (none) else (if ((rd_T84 t383 t452).f2) = (-1) then (laws_FnTeams.l0 k1 t383 t400 t409 (wrap64 ((t418.length : Int) + (t427.length : Int))) t436 (wrap64 (x9_1 + 1)) t380 t381 t382) else (none))) else (none)) else (none))) else (laws_FnTeams.l0 k1 t383 t400 t409 (wrap64 ((t418.length : Int) + (t427.length : Int))) t436 (wrap64 (x9_1 + 1)) t380 t381 t382)))))) else (if t445 ≥ 0 then (if t452 < 0 then (none) else (if 0 ≤ t452 then (if t452 < (t383.length : Int) then (if ((rd_T84 t383 t452).f1) = x9_1 then ((laws_has.f k1 t436 x9_1).bind fun t493 => (if t493 = true then (if t445 < 0 then (none) else (if (rd_T84 t383 t452).f3 = true then (none) else (if ((rd_T84 t383 t452).f2) = (-1) then (laws_FnTeams.l0 k1 t383 t400 t409 (wrap64 ((t418.length : Int) + (t427.length : Int))) t436 (wrap64 (x9_1 + 1)) t380 t381 t382) else (none)))) else (laws_FnTeams.l0 k1 t383 t400 t409 (wrap64 ((t418.length : Int) + (t427.length : Int))) t436 (wrap64 (x9_1 + 1)) t380 t381 t382))) else (if ((rd_T84 t383 t452).f2) = x9_1 then ((laws_has.f k1 t436 x9_1).bind fun t497 => (if t497 = true then (if t445 < 0 then (none) else (if (rd_T84 t383 t452).f3 = true then (none) else (if ((rd_T84 t383 t452).f2) = (-1) then (laws_FnTeams.l0 k1 t383 t400 t409 (wrap64 ((t418.length : Int) + (t427.length : Int))) t436 (wrap64 (x9_1 + 1)) t380 t381 t382) else (none)))) else (laws_FnTeams.l0 k1 t383 t400 t409 (wrap64 ((t418.length : Int) + (t427.length : Int))) t436 (wrap64 (x9_1 + 1)) t380 t381 t382))) else (none))) else (none)) else (none))) else ((laws_has.f k1 t436 x9_1).bind fun t500 => (if t500 = true then (if t445 < 0 then (none) else (if 0 ≤ t452 then (if t452 < (t383.length : Int) then (if (rd_T84 t383 t452).f3 = true then (none) else (if ((rd_T84 t383 t452).f2) = (-1) then (laws_FnTeams.l0 k1 t383 t400 t409 (wrap64 ((t418.length : Int) + (t427.length : Int))) t436 (wrap64 (x9_1 + 1)) t380 t381 t382) else (none))) else (none)) else (none))) else (laws_FnTeams.l0 k1 t383 t400 t409 (wrap64 ((t418.length : Int) + (t427.length : Int))) t436 (wrap64 (x9_1 + 1)) t380 t381 t382))))))))))) = some r := by first | (rw [hy449]; with_reducible exact H) | (have H2_ := (Option.bind_some _ _).symm.trans H; rw [hy449]; with_reducible exact H2_) | (have H2_ := (Option.bind_some _ _).symm.trans H; with_reducible exact H2_) | with_reducible exact H | (rw [hy449]; exact H) | exact H
      have Ny449 := Aside0.mk hy449
      clear hy449
      replace H := Option.bind_eq_some_iff.mp H
      obtain ⟨t452, A600, H⟩ := H
      try dsimp only at H
      have A60 := Aside0.mk A600
      clear A600
      replace H := Option.bind_eq_some_iff.mp H
      obtain ⟨t453, A610, H⟩ := H
      try dsimp only at H
      have A61 := Aside0.mk A610
      clear A610
      have hcz269_0 : wr.cell? ⟨gb386, 0, none⟩ = some (.int .i64 t380) := (bc BK386.out 0).trans rfl
      have hcz269_1 : wr.cell? ⟨gb386, 1, none⟩ = some (.int .i64 t381) := (bc BK386.out 1).trans rfl
      have hcz269_2 : wr.cell? ⟨gb386, 2, none⟩ = some (.string t382) := (bc BK386.out 2).trans rfl
      have hfz269_0 := bz BK386.out 0
      have hfz269_1 := bz BK386.out 1
      have hfz269_2 := bz BK386.out 2
      go_upto_region 15 with (first | ((with_reducible refine gate_dst (N := 19) rfl ?_); refine wpList_load_row (P := Try.prog) rfl _ _ rfl gb386 ?hx _ _ _ _ BK386.out Try.underlying27 rfl (by kernel_rfl) ?_; (case hx => first | rfl | (go_simp; done))) | ((with_reducible refine gate_dst (N := 55) rfl ?_); refine Kd.R_lit k84 _ 84 ?hg (N := 55) ?hd (xs := ([] : List (S84))) (inner := []) (ok := fun _ => True) (okp := fun _ => True) ?hr ?hp (fun _ hk => hk) trivial (Below.refl _ _) (Nat.le_refl _) (by simp) ?_; (case hd => rfl); (case hg => rfl); (case hr => first | (go_simp; done) | (go_simp; rfl)); (case hp => exact (Reps.none _ _)); intro v440 w270 ho271 hb hg_ hnew_; clear hg_ hnew_; (first | rw [← Ny439.out] at ho271 | (simp only [Int.reduceToNat] at ho271; rw [← Ny439.out] at ho271)); have n0_ := Aside0.mk (Kd.R_elder' (by (with_reducible repeat (first | apply Kd.Ra | apply Kd.Rn | apply Kd.Rd)); exact HO_4.out) (Kd.R_base ho271) hb); have n1_ := Aside0.mk (Kd.Rb (by (with_reducible repeat (first | apply Kd.Ra | apply Kd.Rn | apply Kd.Rd)); exact HO_5.out) hb); have n2_ := Aside0.mk (Kd.Rb (by (with_reducible repeat (first | apply Kd.Ra | apply Kd.Rn | apply Kd.Rd)); exact HO_6.out) hb); have n3_ := Aside0.mk (Kd.Rb (by (with_reducible repeat (first | apply Kd.Ra | apply Kd.Rn | apply Kd.Rd)); exact HO_8.out) hb); have n4_ := Aside0.mk (Kd.R_lower (Kd.R_new' ho271 (Kd.R_lt (by (with_reducible repeat (first | apply Kd.Ra | apply Kd.Rn | apply Kd.Rd)); exact HO_4.out))) (below_size (by repeat (first | (with_reducible first | exact HB.out | apply wa | apply wN | apply wd | refine ws ?_ GE386.out) | exact HB.out)))); have n5_ := Aside0.mk (bb (g := gb386) (by first | (with_reducible exact BK386.out) | (with_reducible exact bN BK386.out _) | (with_reducible exact bd BK386.out) | ((with_reducible repeat first | apply bN | apply bd | apply ba); exact BK386.out)) hb); have n6_ := Aside0.mk (below_step (by repeat (first | (with_reducible first | exact HB.out | apply wa | apply wN | apply wd | refine ws ?_ GE386.out) | exact HB.out)) hb); clear HO_4; clear HO_5; clear HO_6; clear HO_8; clear BK386; clear HB; have HO_4 := n0_; have HO_5 := n1_; have HO_6 := n2_; have HO_8 := n3_; have HO441 := n4_; have BK386 := n5_; have HB := n6_; clear n0_ n1_ n2_ n3_ n4_ n5_ n6_; clear hb ho271) | ((with_reducible refine gate_builtin (b := .append) (xs := #[.tmp 55, .tmp 56]) rfl ?_); at_builtin; refine Kd.R_append_rows k84 (w0 := w) w.heap.size rfl (.tmp 55) (.tmp 56) 30 84 (.agg #[(.int .i64 0), (.int .i64 0), (.int .i64 0), (.bool false)]) 32 rfl Try.underlying30 info84 rfl (by decide) (by omega) v440 y439 t383 _ _ _ (fun k_ => some k_ ≠ (.slice Ao26 t383.length co26 : Value).ownBlock) (fun _ => False) rfl rfl ?aO ?aR (fun _ _ h => h) (fun _ h => h.elim) ?aF ?aB ?aS ?aL ?_; (case aR => repeat (first | exact (Kd.R_reads' HO_4.out).2.2 | (with_reducible refine Kd.Ca ?_ _) | (with_reducible refine Kd.Cn ?_ _) | (with_reducible refine Kd.Cd ?_))); (case aB => exact (by repeat (first | (with_reducible first | exact HB.out | apply wa | apply wN | apply wd | refine ws ?_ GE386.out) | exact HB.out))); (case aF => exact (fun k_ hk => Kd.fresh' (Kd.R_lt (by (with_reducible repeat (first | apply Kd.Ra | apply Kd.Rn | apply Kd.Rd)); exact HO_4.out)) k_ hk)); (case aO => exact (by (with_reducible repeat (first | apply Kd.Ra | apply Kd.Rn | apply Kd.Rd)); exact Kd.R_mono HO441.out (fun _ hk => hk.2))); (case aS => exact (below_size (by repeat (first | (with_reducible first | exact HB.out | apply wa | apply wN | apply wd | refine ws ?_ GE386.out) | exact HB.out)))); (case aL => have := LMc57.out; omega); intro v443 w272 ho hb hg hat; rw [← Ny442.out] at ho; have n0_ := Aside0.mk (Kd.R_after (ok := (fun _ => True)) (by (with_reducible repeat (first | apply Kd.Ra | apply Kd.Rn | apply Kd.Rd)); exact HO_4.out) hg hat); have n1_ := Aside0.mk (Kd.R_over' (by (with_reducible repeat (first | apply Kd.Ra | apply Kd.Rn | apply Kd.Rd)); exact HO_5.out) (Kd.R_typed (by (with_reducible repeat (first | apply Kd.Ra | apply Kd.Rn | apply Kd.Rd)); exact HO441.out)) (by decide) hg); have n2_ := Aside0.mk (Kd.R_over' (by (with_reducible repeat (first | apply Kd.Ra | apply Kd.Rn | apply Kd.Rd)); exact HO_6.out) (Kd.R_typed (by (with_reducible repeat (first | apply Kd.Ra | apply Kd.Rn | apply Kd.Rd)); exact HO441.out)) (by decide) hg); have n3_ := Aside0.mk (Kd.R_over' (by (with_reducible repeat (first | apply Kd.Ra | apply Kd.Rn | apply Kd.Rd)); exact HO_8.out) (Kd.R_typed (by (with_reducible repeat (first | apply Kd.Ra | apply Kd.Rn | apply Kd.Rd)); exact HO441.out)) (by decide) hg); have n4_ := Aside0.mk (blk_grown (g := gb386) (by (with_reducible repeat first | apply bN | apply bd | apply ba); exact BK386.out) hg (Kd.R_ne HO441.out BK386.out (by decide))); have n5_ := Aside0.mk (hb); have n6_ := Aside0.mk (ho); clear HO_4; clear HO_5; clear HO_6; clear HO_8; clear BK386; clear HB; clear HO441; have HO_4 := n0_; have HO_5 := n1_; have HO_6 := n2_; have HO_8 := n3_; have BK386 := n4_; have HB := n5_; have HO444 := n6_; clear n0_ n1_ n2_ n3_ n4_ n5_ n6_; clear ho hb hg hat; obtain ⟨Ao273, co273, eo273⟩ := Kd.R_slice HO444.out; subst eo273) | ((with_reducible refine gate_callee (f := 41) rfl ?_); refine goesL_ (some 59) rfl rfl Try.func41 (by kernel_rfl) rfl #[.slice Ao273 y442.length co273, .int .i64 x9_1] rfl (by (try simp only [List.map_toArray, List.map_cons, List.map_nil]); first | done | rfl | (simp only [List.length_drop, List.length_take]; rfl)) ?_; (with_reducible refine (impl_HolderOf.calls k1 _ _ y442 x9_1 t445 _ ?side1 ?side2 A58.out).mono ?_); (case side1 => repeat (first | exact (Kd.R_reads' HO444.out).2.2 | (with_reducible refine Kd.Ca ?_ _) | (with_reducible refine Kd.Cn ?_ _) | (with_reducible refine Kd.Cd ?_))); (case side2 => exact (Kd.R_reads' HO444.out).2.1); rintro e w274 ⟨rfl, hb⟩; refine ⟨_, rfl, ?_⟩; have n0_ := Aside0.mk (Kd.Rb (by (with_reducible repeat (first | apply Kd.Ra | apply Kd.Rn | apply Kd.Rd)); exact HO_4.out) hb); have n1_ := Aside0.mk (Kd.Rb (by (with_reducible repeat (first | apply Kd.Ra | apply Kd.Rn | apply Kd.Rd)); exact HO_5.out) hb); have n2_ := Aside0.mk (Kd.Rb (by (with_reducible repeat (first | apply Kd.Ra | apply Kd.Rn | apply Kd.Rd)); exact HO_6.out) hb); have n3_ := Aside0.mk (Kd.Rb (by (with_reducible repeat (first | apply Kd.Ra | apply Kd.Rn | apply Kd.Rd)); exact HO_8.out) hb); have n4_ := Aside0.mk (Kd.Rb (by (with_reducible repeat (first | apply Kd.Ra | apply Kd.Rn | apply Kd.Rd)); exact HO444.out) hb); have n5_ := Aside0.mk (bb (g := gb386) (by first | (with_reducible exact BK386.out) | (with_reducible exact bN BK386.out _) | (with_reducible exact bd BK386.out) | ((with_reducible repeat first | apply bN | apply bd | apply ba); exact BK386.out)) hb); have n6_ := Aside0.mk (below_step (by repeat (first | (with_reducible first | exact HB.out | apply wa | apply wN | apply wd | refine ws ?_ GE386.out) | exact HB.out)) hb); clear HO_4; clear HO_5; clear HO_6; clear HO_8; clear HO444; clear BK386; clear HB; have HO_4 := n0_; have HO_5 := n1_; have HO_6 := n2_; have HO_8 := n3_; have HO444 := n4_; have BK386 := n5_; have HB := n6_; clear n0_ n1_ n2_ n3_ n4_ n5_ n6_; (try clear hb); (try clear hb2); (try clear hk); (try clear hi)) | ((with_reducible refine gate_dst (N := 60) rfl ?_); refine Kd.R_lit k84 _ 84 ?hg (N := 60) ?hd (xs := ([] : List (S84))) (inner := []) (ok := fun _ => True) (okp := fun _ => True) ?hr ?hp (fun _ hk => hk) trivial (Below.refl _ _) (Nat.le_refl _) (by simp) ?_; (case hd => rfl); (case hg => rfl); (case hr => first | (go_simp; done) | (go_simp; rfl)); (case hp => exact (Reps.none _ _)); intro v447 w275 ho276 hb hg_ hnew_; clear hg_ hnew_; (first | rw [← Ny446.out] at ho276 | (simp only [Int.reduceToNat] at ho276; rw [← Ny446.out] at ho276)); have n0_ := Aside0.mk (Kd.R_elder' (by (with_reducible repeat (first | apply Kd.Ra | apply Kd.Rn | apply Kd.Rd)); exact HO_4.out) (Kd.R_base ho276) hb); have n1_ := Aside0.mk (Kd.Rb (by (with_reducible repeat (first | apply Kd.Ra | apply Kd.Rn | apply Kd.Rd)); exact HO_5.out) hb); have n2_ := Aside0.mk (Kd.Rb (by (with_reducible repeat (first | apply Kd.Ra | apply Kd.Rn | apply Kd.Rd)); exact HO_6.out) hb); have n3_ := Aside0.mk (Kd.Rb (by (with_reducible repeat (first | apply Kd.Ra | apply Kd.Rn | apply Kd.Rd)); exact HO_8.out) hb); have n4_ := Aside0.mk (Kd.R_elder' (by (with_reducible repeat (first | apply Kd.Ra | apply Kd.Rn | apply Kd.Rd)); exact HO444.out) (Kd.R_base ho276) hb); have n5_ := Aside0.mk (Kd.R_lower (Kd.R_new' (Kd.R_new' ho276 (Kd.R_lt (by (with_reducible repeat (first | apply Kd.Ra | apply Kd.Rn | apply Kd.Rd)); exact HO_4.out))) (Kd.R_lt (by (with_reducible repeat (first | apply Kd.Ra | apply Kd.Rn | apply Kd.Rd)); exact HO444.out))) (below_size (by repeat (first | (with_reducible first | exact HB.out | apply wa | apply wN | apply wd | refine ws ?_ GE386.out) | exact HB.out)))); have n6_ := Aside0.mk (bb (g := gb386) (by first | (with_reducible exact BK386.out) | (with_reducible exact bN BK386.out _) | (with_reducible exact bd BK386.out) | ((with_reducible repeat first | apply bN | apply bd | apply ba); exact BK386.out)) hb); have n7_ := Aside0.mk (below_step (by repeat (first | (with_reducible first | exact HB.out | apply wa | apply wN | apply wd | refine ws ?_ GE386.out) | exact HB.out)) hb); clear HO_4; clear HO_5; clear HO_6; clear HO_8; clear HO444; clear BK386; clear HB; have HO_4 := n0_; have HO_5 := n1_; have HO_6 := n2_; have HO_8 := n3_; have HO444 := n4_; have HO448 := n5_; have BK386 := n6_; have HB := n7_; clear n0_ n1_ n2_ n3_ n4_ n5_ n6_ n7_; clear hb ho276) | ((with_reducible refine gate_builtin (b := .append) (xs := #[.tmp 60, .tmp 61]) rfl ?_); at_builtin; refine Kd.R_append_rows k84 (w0 := w) w.heap.size rfl (.tmp 60) (.tmp 61) 30 84 (.agg #[(.int .i64 0), (.int .i64 0), (.int .i64 0), (.bool false)]) 32 rfl Try.underlying30 info84 rfl (by decide) (by omega) v447 y446 t383 _ _ _ (fun k_ => some k_ ≠ (.slice Ao26 t383.length co26 : Value).ownBlock ∧ some k_ ≠ (.slice Ao273 y442.length co273 : Value).ownBlock) (fun _ => False) rfl rfl ?aO ?aR (fun _ _ h => h) (fun _ h => h.elim) ?aF ?aB ?aS ?aL ?_; (case aR => repeat (first | exact (Kd.R_reads' HO_4.out).2.2 | (with_reducible refine Kd.Ca ?_ _) | (with_reducible refine Kd.Cn ?_ _) | (with_reducible refine Kd.Cd ?_))); (case aB => exact (by repeat (first | (with_reducible first | exact HB.out | apply wa | apply wN | apply wd | refine ws ?_ GE386.out) | exact HB.out))); (case aF => exact (fun k_ hk => ⟨Kd.fresh' (Kd.R_lt (by (with_reducible repeat (first | apply Kd.Ra | apply Kd.Rn | apply Kd.Rd)); exact HO_4.out)) k_ hk, Kd.fresh' (Kd.R_lt (by (with_reducible repeat (first | apply Kd.Ra | apply Kd.Rn | apply Kd.Rd)); exact HO444.out)) k_ hk⟩)); (case aO => exact (by (with_reducible repeat (first | apply Kd.Ra | apply Kd.Rn | apply Kd.Rd)); exact Kd.R_mono HO448.out (fun _ hk => ⟨hk.1.2, hk.2⟩))); (case aS => exact (below_size (by repeat (first | (with_reducible first | exact HB.out | apply wa | apply wN | apply wd | refine ws ?_ GE386.out) | exact HB.out)))); (case aL => have := LMc59.out; omega); intro v450 w277 ho hb hg hat; rw [← Ny449.out] at ho; have n0_ := Aside0.mk (Kd.R_after (ok := (fun k_ => some k_ ≠ (.slice Ao273 y442.length co273 : Value).ownBlock)) (by (with_reducible repeat (first | apply Kd.Ra | apply Kd.Rn | apply Kd.Rd)); exact Kd.R_mono HO_4.out (fun _ hk => ⟨hk.1.2, hk.2⟩)) hg hat); have n1_ := Aside0.mk (Kd.R_over' (by (with_reducible repeat (first | apply Kd.Ra | apply Kd.Rn | apply Kd.Rd)); exact HO_5.out) (Kd.R_typed (by (with_reducible repeat (first | apply Kd.Ra | apply Kd.Rn | apply Kd.Rd)); exact HO448.out)) (by decide) hg); have n2_ := Aside0.mk (Kd.R_over' (by (with_reducible repeat (first | apply Kd.Ra | apply Kd.Rn | apply Kd.Rd)); exact HO_6.out) (Kd.R_typed (by (with_reducible repeat (first | apply Kd.Ra | apply Kd.Rn | apply Kd.Rd)); exact HO448.out)) (by decide) hg); have n3_ := Aside0.mk (Kd.R_over' (by (with_reducible repeat (first | apply Kd.Ra | apply Kd.Rn | apply Kd.Rd)); exact HO_8.out) (Kd.R_typed (by (with_reducible repeat (first | apply Kd.Ra | apply Kd.Rn | apply Kd.Rd)); exact HO448.out)) (by decide) hg); have n4_ := Aside0.mk (blk_grown (g := gb386) (by (with_reducible repeat first | apply bN | apply bd | apply ba); exact BK386.out) hg (Kd.R_ne HO448.out BK386.out (by decide))); have n5_ := Aside0.mk (Kd.R_after (ok := (fun k_ => some k_ ≠ (.slice Ao26 t383.length co26 : Value).ownBlock)) (by (with_reducible repeat (first | apply Kd.Ra | apply Kd.Rn | apply Kd.Rd)); exact HO444.out) hg hat); have n6_ := Aside0.mk (hb); have n7_ := Aside0.mk (ho); clear HO_4; clear HO_5; clear HO_6; clear HO_8; clear BK386; clear HO444; clear HB; clear HO448; have HO_4 := n0_; have HO_5 := n1_; have HO_6 := n2_; have HO_8 := n3_; have BK386 := n4_; have HO444 := n5_; have HB := n6_; have HO451 := n7_; clear n0_ n1_ n2_ n3_ n4_ n5_ n6_ n7_; clear ho hb hg hat; obtain ⟨Ao278, co278, eo278⟩ := Kd.R_slice HO451.out; subst eo278) | ((with_reducible refine gate_callee (f := 42) rfl ?_); refine goesL_ (some 64) rfl rfl Try.func42 (by kernel_rfl) rfl #[.slice Ao278 y449.length co278, .int .i64 t445] rfl (by (try simp only [List.map_toArray, List.map_cons, List.map_nil]); first | done | rfl | (simp only [List.length_drop, List.length_take]; rfl)) ?_; (with_reducible refine (impl_RobotAt.calls _ _ y449 t445 t452 _ ?side1 ?side2 A60.out).mono ?_); (case side1 => repeat (first | exact (Kd.R_reads' HO451.out).2.2 | (with_reducible refine Kd.Ca ?_ _) | (with_reducible refine Kd.Cn ?_ _) | (with_reducible refine Kd.Cd ?_))); (case side2 => exact (Kd.R_reads' HO451.out).2.1); rintro e w279 ⟨rfl, hb⟩; refine ⟨_, rfl, ?_⟩; have n0_ := Aside0.mk (Kd.Rb (by (with_reducible repeat (first | apply Kd.Ra | apply Kd.Rn | apply Kd.Rd)); exact HO_4.out) hb); have n1_ := Aside0.mk (Kd.Rb (by (with_reducible repeat (first | apply Kd.Ra | apply Kd.Rn | apply Kd.Rd)); exact HO_5.out) hb); have n2_ := Aside0.mk (Kd.Rb (by (with_reducible repeat (first | apply Kd.Ra | apply Kd.Rn | apply Kd.Rd)); exact HO_6.out) hb); have n3_ := Aside0.mk (Kd.Rb (by (with_reducible repeat (first | apply Kd.Ra | apply Kd.Rn | apply Kd.Rd)); exact HO_8.out) hb); have n4_ := Aside0.mk (Kd.Rb (by (with_reducible repeat (first | apply Kd.Ra | apply Kd.Rn | apply Kd.Rd)); exact HO444.out) hb); have n5_ := Aside0.mk (Kd.Rb (by (with_reducible repeat (first | apply Kd.Ra | apply Kd.Rn | apply Kd.Rd)); exact HO451.out) hb); have n6_ := Aside0.mk (bb (g := gb386) (by first | (with_reducible exact BK386.out) | (with_reducible exact bN BK386.out _) | (with_reducible exact bd BK386.out) | ((with_reducible repeat first | apply bN | apply bd | apply ba); exact BK386.out)) hb); have n7_ := Aside0.mk (below_step (by repeat (first | (with_reducible first | exact HB.out | apply wa | apply wN | apply wd | refine ws ?_ GE386.out) | exact HB.out)) hb); clear HO_4; clear HO_5; clear HO_6; clear HO_8; clear HO444; clear HO451; clear BK386; clear HB; have HO_4 := n0_; have HO_5 := n1_; have HO_6 := n2_; have HO_8 := n3_; have HO444 := n4_; have HO451 := n5_; have BK386 := n6_; have HB := n7_; clear n0_ n1_ n2_ n3_ n4_ n5_ n6_ n7_; (try clear hb); (try clear hb2); (try clear hk); (try clear hi); obtain ⟨Ao280, co280, eo280⟩ := Kd.R_slice HO_5.out; subst eo280))
      dsimp only [List.append]
      clear hcz269_0 hcz269_1 hcz269_2 hfz269_0 hfz269_1 hfz269_2
      by_cases c62 : t453 = true
      · subst c62
        rw [if_pos rfl] at H
        by_cases c63 : ((decide (t445 ≥ 0)) != true) = true
        · rw [if_pos c63] at H
          exact absurd H (by simp)
        rw [if_neg c63] at H
        have c63b0 : ((decide (t445 ≥ 0)) != true) = false := by simpa using c63
        (try (have c63b1 : decide ((decide (t445 ≥ 0)) = true) = true := by simpa using c63))
        (try (have c63b2 : ((decide (t445 ≥ 0)) == true) = true := by simpa using c63))
        clear c63
        replace H := Option.bind_eq_some_iff.mp H
        obtain ⟨t454, A640, H⟩ := H
        try dsimp only at H
        have A64 := Aside0.mk A640
        clear A640
        by_cases c65 : t454 = true
        rotate_left
        · replace c65 := Bool.eq_false_iff.mpr c65
          subst c65
          exact absurd (A61.out.symm.trans A64.out) (by simp)
        subst c65
        rw [if_pos rfl] at H
        replace H := Option.bind_eq_some_iff.mp H
        obtain ⟨t455, A660, H⟩ := H
        try dsimp only at H
        have A66 := Aside0.mk A660
        clear A660
        by_cases c67 : t455 = true
        · subst c67
          rw [if_pos rfl] at H
          exact absurd H (by simp)
        replace c67 := Bool.eq_false_iff.mpr c67
        subst c67
        rw [if_neg (show ¬ (false = true) by decide)] at H
        by_cases c68 : t445 ≥ 0
        rotate_left
        · rw [if_neg c68] at H
          exact absurd (by simpa using c63b0) c68
        rw [if_pos c68] at H
        have c68b0 : decide (0 ≤ t445) = true := decide_eq_true c68
        clear c68
        by_cases c69 : t452 < 0
        · rw [if_pos c69] at H
          exact absurd H (by simp)
        rw [if_neg c69] at H
        have c69b0 : decide (t452 < 0) = false := decide_eq_false c69
        clear c69
        by_cases c70 : 0 ≤ t452
        rotate_left
        · rw [if_neg c70] at H
          exact absurd H (by simp)
        rw [if_pos c70] at H
        have c70b0 : decide (0 ≤ t452) = true := decide_eq_true c70
        clear c70
        by_cases c71 : t452 < (t383.length : Int)
        rotate_left
        · rw [if_neg c71] at H
          exact absurd H (by simp)
        rw [if_pos c71] at H
        have c71b0 : decide (t452 < (t383.length : Int)) = true := decide_eq_true c71
        clear c71
        by_cases c72 : ((rd_T84 t383 t452).f1) = x9_1
        · rw [if_pos c72] at H
          have c72b0 : (((rd_T84 t383 t452).f1) == x9_1) = true := beq_iff_eq.mpr c72
          have c72b1 : (((rd_T84 t383 t452).f1) != x9_1) = false := bne_eq_false_iff_eq.mpr c72
          clear c72
          replace H := Option.bind_eq_some_iff.mp H
          obtain ⟨t457, A730, H⟩ := H
          try dsimp only at H
          have A73 := Aside0.mk A730
          clear A730
          by_cases c74 : t457 = true
          rotate_left
          · replace c74 := Bool.eq_false_iff.mpr c74
            subst c74
            rw [if_neg (show ¬ (false = true) by decide)] at H
            have H' := Aside0.mk H
            clear H
            obtain ⟨Ao105, co105, eo105⟩ := Kd.R_slice HO_6.out
            subst eo105
            have p456 : 0 ≤ (t452 : Int) := of_decide_eq_true (by first | (with_reducible assumption) | assumption)
            have q456 : t452 < (t383.length : Int) := of_decide_eq_true (by first | (with_reducible assumption) | assumption)
            obtain ⟨ad456, e456, hx456_0, hx456_1, hx456_2, hx456_3⟩ := at_T84 (Kd.R_reads' HO_4.out).2.2 t452 p456 q456
            cases e456
            replace p456 := eq_true p456
            replace q456 := eq_true q456
            obtain ⟨Ao106, co106, eo106⟩ := Kd.R_slice HO_8.out
            subst eo106
            go_wp2_with (first | ((with_reducible refine gate_dst (N := 19) rfl ?_); refine wpList_load_row (P := Try.prog) rfl _ _ rfl gb386 ?hx _ _ _ _ BK386.out Try.underlying27 rfl (by kernel_rfl) ?_; (case hx => first | rfl | (go_simp; done))) | (go_at_call 43; (with_reducible refine (laws_has.calls k1 _ _ t400 x9_1 true _ ?side1 ?side2 A61.out).mono ?_); (case side1 => repeat (first | exact (Kd.R_reads' HO_5.out).2.2 | (with_reducible refine Kd.Ca ?_ _) | (with_reducible refine Kd.Cn ?_ _) | (with_reducible refine Kd.Cd ?_))); (case side2 => exact (Kd.R_reads' HO_5.out).2.1); rintro e w' ⟨rfl, ⟨nd, rfl⟩⟩) | (go_at_call 43; (with_reducible refine (laws_has.calls k1 _ _ t409 x9_1 false _ ?side1 ?side2 A66.out).mono ?_); (case side1 => repeat (first | exact (Kd.R_reads' HO_6.out).2.2 | (with_reducible refine Kd.Ca ?_ _) | (with_reducible refine Kd.Cn ?_ _) | (with_reducible refine Kd.Cd ?_))); (case side2 => exact (Kd.R_reads' HO_6.out).2.1); rintro e w' ⟨rfl, ⟨nd, rfl⟩⟩) | (go_at_call 43; (with_reducible refine (laws_has.calls k1 _ _ t436 x9_1 false _ ?side1 ?side2 A73.out).mono ?_); (case side1 => repeat (first | exact (Kd.R_reads' HO_8.out).2.2 | (with_reducible refine Kd.Ca ?_ _) | (with_reducible refine Kd.Cn ?_ _) | (with_reducible refine Kd.Cd ?_))); (case side2 => exact (Kd.R_reads' HO_8.out).2.1); rintro e w' ⟨rfl, ⟨nd, rfl⟩⟩))
            all_goals
              go_roundg k1
              case measure => have := HK1.out; omega
              case rel => exact ⟨(wrap64 (x9_1 + 1)), (by first | rfl | (simp; done) | (simp [*]; done)), H', ⟨by have := HK1.out; omega⟩, ⟨by (with_reducible repeat (first | apply Kd.Ra | apply Kd.Rn | apply Kd.Rd)); exact Kd.R_mono HO_4.out (fun _ hk => trivial)⟩, ⟨by (with_reducible repeat (first | apply Kd.Ra | apply Kd.Rn | apply Kd.Rd)); exact HO_5.out⟩, ⟨by (with_reducible repeat (first | apply Kd.Ra | apply Kd.Rn | apply Kd.Rd)); exact HO_6.out⟩, ⟨by (with_reducible repeat (first | apply Kd.Ra | apply Kd.Rn | apply Kd.Rd)); exact HO_8.out⟩, ⟨by (with_reducible repeat first | apply bN | apply bd | apply ba); exact BK386.out⟩, ⟨by repeat (first | (with_reducible first | exact HB.out | apply wa | apply wN | apply wd | refine ws ?_ GE386.out) | exact HB.out)⟩⟩
          subst c74
          rw [if_pos rfl] at H
          by_cases c75 : t445 < 0
          · rw [if_pos c75] at H
            exact absurd H (by simp)
          rw [if_neg c75] at H
          have c75b0 : decide (t445 < 0) = false := decide_eq_false c75
          clear c75
          obtain ⟨bq76, hbq76⟩ : ∃ b_ : Bool, b_ = ((rd_T84 t383 t452).f3) := ⟨_, rfl⟩
          replace H : (if bq76 = true then (none) else (if ((rd_T84 t383 t452).f2) = (-1) then (laws_FnTeams.l0 k1 t383 t400 t409 (wrap64 ((t418.length : Int) + (t427.length : Int))) t436 (wrap64 (x9_1 + 1)) t380 t381 t382) else (none))) = some r := by rw [← hbq76] at H; exact H
          have Nbq76 := Aside0.mk hbq76
          clear hbq76
          by_cases c77 : bq76 = true
          · subst c77
            rw [if_pos rfl] at H
            exact absurd H (by simp)
          replace c77 := Bool.eq_false_iff.mpr c77
          subst c77
          rw [if_neg (show ¬ (false = true) by decide)] at H
          by_cases c78 : ((rd_T84 t383 t452).f2) = (-1)
          rotate_left
          · rw [if_neg c78] at H
            exact absurd H (by simp)
          rw [if_pos c78] at H
          have c78b0 : (((rd_T84 t383 t452).f2) == (-1)) = true := beq_iff_eq.mpr c78
          have c78b1 : (((rd_T84 t383 t452).f2) != (-1)) = false := bne_eq_false_iff_eq.mpr c78
          clear c78
          have H' := Aside0.mk H
          clear H
          obtain ⟨Ao91, co91, eo91⟩ := Kd.R_slice HO_6.out
          subst eo91
          have p456 : 0 ≤ (t452 : Int) := of_decide_eq_true (by first | (with_reducible assumption) | assumption)
          have q456 : t452 < (t383.length : Int) := of_decide_eq_true (by first | (with_reducible assumption) | assumption)
          obtain ⟨ad456, e456, hx456_0, hx456_1, hx456_2, hx456_3⟩ := at_T84 (Kd.R_reads' HO_4.out).2.2 t452 p456 q456
          (try rw [← Nbq76.out] at hx456_3) <;> (try rw [← Nbq76.out] at hw456_3)
          cases e456
          replace p456 := eq_true p456
          replace q456 := eq_true q456
          obtain ⟨Ao92, co92, eo92⟩ := Kd.R_slice HO_8.out
          subst eo92
          have p458 : 0 ≤ (t452 : Int) := of_decide_eq_true (by first | (with_reducible assumption) | assumption)
          have q458 : t452 < (t383.length : Int) := of_decide_eq_true (by first | (with_reducible assumption) | assumption)
          obtain ⟨ad458, e458, hx458_0, hx458_1, hx458_2, hx458_3⟩ := at_T84 (Kd.R_reads' HO_4.out).2.2 t452 p458 q458
          (try rw [← Nbq76.out] at hx458_3) <;> (try rw [← Nbq76.out] at hw458_3)
          obtain rfl : ad456 = ad458 := (by injection e458)
          replace p458 := eq_true p458
          replace q458 := eq_true q458
          have p459 : 0 ≤ (t452 : Int) := of_decide_eq_true (by first | (with_reducible assumption) | assumption)
          have q459 : t452 < (t383.length : Int) := of_decide_eq_true (by first | (with_reducible assumption) | assumption)
          obtain ⟨ad459, e459, hx459_0, hx459_1, hx459_2, hx459_3⟩ := at_T84 (Kd.R_reads' HO_4.out).2.2 t452 p459 q459
          (try rw [← Nbq76.out] at hx459_3) <;> (try rw [← Nbq76.out] at hw459_3)
          obtain rfl : ad456 = ad459 := (by injection e459)
          replace p459 := eq_true p459
          replace q459 := eq_true q459
          go_wp2_with (first | ((with_reducible refine gate_dst (N := 19) rfl ?_); refine wpList_load_row (P := Try.prog) rfl _ _ rfl gb386 ?hx _ _ _ _ BK386.out Try.underlying27 rfl (by kernel_rfl) ?_; (case hx => first | rfl | (go_simp; done))) | (go_at_call 43; (with_reducible refine (laws_has.calls k1 _ _ t400 x9_1 true _ ?side1 ?side2 A61.out).mono ?_); (case side1 => repeat (first | exact (Kd.R_reads' HO_5.out).2.2 | (with_reducible refine Kd.Ca ?_ _) | (with_reducible refine Kd.Cn ?_ _) | (with_reducible refine Kd.Cd ?_))); (case side2 => exact (Kd.R_reads' HO_5.out).2.1); rintro e w' ⟨rfl, ⟨nd, rfl⟩⟩) | (go_at_call 43; (with_reducible refine (laws_has.calls k1 _ _ t409 x9_1 false _ ?side1 ?side2 A66.out).mono ?_); (case side1 => repeat (first | exact (Kd.R_reads' HO_6.out).2.2 | (with_reducible refine Kd.Ca ?_ _) | (with_reducible refine Kd.Cn ?_ _) | (with_reducible refine Kd.Cd ?_))); (case side2 => exact (Kd.R_reads' HO_6.out).2.1); rintro e w' ⟨rfl, ⟨nd, rfl⟩⟩) | (go_at_call 43; (with_reducible refine (laws_has.calls k1 _ _ t436 x9_1 true _ ?side1 ?side2 A73.out).mono ?_); (case side1 => repeat (first | exact (Kd.R_reads' HO_8.out).2.2 | (with_reducible refine Kd.Ca ?_ _) | (with_reducible refine Kd.Cn ?_ _) | (with_reducible refine Kd.Cd ?_))); (case side2 => exact (Kd.R_reads' HO_8.out).2.1); rintro e w' ⟨rfl, ⟨nd, rfl⟩⟩))
          all_goals
            go_roundg k1
            case measure => have := HK1.out; omega
            case rel => exact ⟨(wrap64 (x9_1 + 1)), (by first | rfl | (simp; done) | (simp [*]; done)), H', ⟨by have := HK1.out; omega⟩, ⟨by (with_reducible repeat (first | apply Kd.Ra | apply Kd.Rn | apply Kd.Rd)); exact Kd.R_mono HO_4.out (fun _ hk => trivial)⟩, ⟨by (with_reducible repeat (first | apply Kd.Ra | apply Kd.Rn | apply Kd.Rd)); exact HO_5.out⟩, ⟨by (with_reducible repeat (first | apply Kd.Ra | apply Kd.Rn | apply Kd.Rd)); exact HO_6.out⟩, ⟨by (with_reducible repeat (first | apply Kd.Ra | apply Kd.Rn | apply Kd.Rd)); exact HO_8.out⟩, ⟨by (with_reducible repeat first | apply bN | apply bd | apply ba); exact BK386.out⟩, ⟨by repeat (first | (with_reducible first | exact HB.out | apply wa | apply wN | apply wd | refine ws ?_ GE386.out) | exact HB.out)⟩⟩
        rw [if_neg c72] at H
        have c72b0 : (((rd_T84 t383 t452).f1) == x9_1) = false := beq_eq_false_iff_ne.mpr c72
        have c72b1 : (((rd_T84 t383 t452).f1) != x9_1) = true := bne_iff_ne.mpr c72
        by_cases c107 : ((rd_T84 t383 t452).f2) = x9_1
        rotate_left
        · rw [if_neg c107] at H
          exact absurd H (by simp)
        rw [if_pos c107] at H
        have c107b0 : (((rd_T84 t383 t452).f2) == x9_1) = true := beq_iff_eq.mpr c107
        have c107b1 : (((rd_T84 t383 t452).f2) != x9_1) = false := bne_eq_false_iff_eq.mpr c107
        clear c107
        replace H := Option.bind_eq_some_iff.mp H
        obtain ⟨t461, A1080, H⟩ := H
        try dsimp only at H
        have A108 := Aside0.mk A1080
        clear A1080
        by_cases c109 : t461 = true
        rotate_left
        · replace c109 := Bool.eq_false_iff.mpr c109
          subst c109
          rw [if_neg (show ¬ (false = true) by decide)] at H
          have H' := Aside0.mk H
          clear H
          obtain ⟨Ao140, co140, eo140⟩ := Kd.R_slice HO_6.out
          subst eo140
          have p456 : 0 ≤ (t452 : Int) := of_decide_eq_true (by first | (with_reducible assumption) | assumption)
          have q456 : t452 < (t383.length : Int) := of_decide_eq_true (by first | (with_reducible assumption) | assumption)
          obtain ⟨ad456, e456, hx456_0, hx456_1, hx456_2, hx456_3⟩ := at_T84 (Kd.R_reads' HO_4.out).2.2 t452 p456 q456
          cases e456
          replace p456 := eq_true p456
          replace q456 := eq_true q456
          have p460 : 0 ≤ (t452 : Int) := of_decide_eq_true (by first | (with_reducible assumption) | assumption)
          have q460 : t452 < (t383.length : Int) := of_decide_eq_true (by first | (with_reducible assumption) | assumption)
          obtain ⟨ad460, e460, hx460_0, hx460_1, hx460_2, hx460_3⟩ := at_T84 (Kd.R_reads' HO_4.out).2.2 t452 p460 q460
          obtain rfl : ad456 = ad460 := (by injection e460)
          replace p460 := eq_true p460
          replace q460 := eq_true q460
          obtain ⟨Ao141, co141, eo141⟩ := Kd.R_slice HO_8.out
          subst eo141
          go_wp2_with (first | ((with_reducible refine gate_dst (N := 19) rfl ?_); refine wpList_load_row (P := Try.prog) rfl _ _ rfl gb386 ?hx _ _ _ _ BK386.out Try.underlying27 rfl (by kernel_rfl) ?_; (case hx => first | rfl | (go_simp; done))) | (go_at_call 43; (with_reducible refine (laws_has.calls k1 _ _ t400 x9_1 true _ ?side1 ?side2 A61.out).mono ?_); (case side1 => repeat (first | exact (Kd.R_reads' HO_5.out).2.2 | (with_reducible refine Kd.Ca ?_ _) | (with_reducible refine Kd.Cn ?_ _) | (with_reducible refine Kd.Cd ?_))); (case side2 => exact (Kd.R_reads' HO_5.out).2.1); rintro e w' ⟨rfl, ⟨nd, rfl⟩⟩) | (go_at_call 43; (with_reducible refine (laws_has.calls k1 _ _ t409 x9_1 false _ ?side1 ?side2 A66.out).mono ?_); (case side1 => repeat (first | exact (Kd.R_reads' HO_6.out).2.2 | (with_reducible refine Kd.Ca ?_ _) | (with_reducible refine Kd.Cn ?_ _) | (with_reducible refine Kd.Cd ?_))); (case side2 => exact (Kd.R_reads' HO_6.out).2.1); rintro e w' ⟨rfl, ⟨nd, rfl⟩⟩) | (go_at_call 43; (with_reducible refine (laws_has.calls k1 _ _ t436 x9_1 false _ ?side1 ?side2 A108.out).mono ?_); (case side1 => repeat (first | exact (Kd.R_reads' HO_8.out).2.2 | (with_reducible refine Kd.Ca ?_ _) | (with_reducible refine Kd.Cn ?_ _) | (with_reducible refine Kd.Cd ?_))); (case side2 => exact (Kd.R_reads' HO_8.out).2.1); rintro e w' ⟨rfl, ⟨nd, rfl⟩⟩))
          all_goals
            go_roundg k1
            case measure => have := HK1.out; omega
            case rel => exact ⟨(wrap64 (x9_1 + 1)), (by first | rfl | (simp; done) | (simp [*]; done)), H', ⟨by have := HK1.out; omega⟩, ⟨by (with_reducible repeat (first | apply Kd.Ra | apply Kd.Rn | apply Kd.Rd)); exact Kd.R_mono HO_4.out (fun _ hk => trivial)⟩, ⟨by (with_reducible repeat (first | apply Kd.Ra | apply Kd.Rn | apply Kd.Rd)); exact HO_5.out⟩, ⟨by (with_reducible repeat (first | apply Kd.Ra | apply Kd.Rn | apply Kd.Rd)); exact HO_6.out⟩, ⟨by (with_reducible repeat (first | apply Kd.Ra | apply Kd.Rn | apply Kd.Rd)); exact HO_8.out⟩, ⟨by (with_reducible repeat first | apply bN | apply bd | apply ba); exact BK386.out⟩, ⟨by repeat (first | (with_reducible first | exact HB.out | apply wa | apply wN | apply wd | refine ws ?_ GE386.out) | exact HB.out)⟩⟩
        subst c109
        rw [if_pos rfl] at H
        by_cases c110 : t445 < 0
        · rw [if_pos c110] at H
          exact absurd H (by simp)
        rw [if_neg c110] at H
        have c110b0 : decide (t445 < 0) = false := decide_eq_false c110
        clear c110
        obtain ⟨bq111, hbq111⟩ : ∃ b_ : Bool, b_ = ((rd_T84 t383 t452).f3) := ⟨_, rfl⟩
        replace H : (if bq111 = true then (none) else (if ((rd_T84 t383 t452).f2) = (-1) then (laws_FnTeams.l0 k1 t383 t400 t409 (wrap64 ((t418.length : Int) + (t427.length : Int))) t436 (wrap64 (x9_1 + 1)) t380 t381 t382) else (none))) = some r := by rw [← hbq111] at H; exact H
        have Nbq111 := Aside0.mk hbq111
        clear hbq111
        by_cases c112 : bq111 = true
        · subst c112
          rw [if_pos rfl] at H
          exact absurd H (by simp)
        replace c112 := Bool.eq_false_iff.mpr c112
        subst c112
        rw [if_neg (show ¬ (false = true) by decide)] at H
        by_cases c113 : ((rd_T84 t383 t452).f2) = (-1)
        rotate_left
        · rw [if_neg c113] at H
          exact absurd H (by simp)
        rw [if_pos c113] at H
        have c113b0 : (((rd_T84 t383 t452).f2) == (-1)) = true := beq_iff_eq.mpr c113
        have c113b1 : (((rd_T84 t383 t452).f2) != (-1)) = false := bne_eq_false_iff_eq.mpr c113
        clear c113
        have H' := Aside0.mk H
        clear H
        obtain ⟨Ao126, co126, eo126⟩ := Kd.R_slice HO_6.out
        subst eo126
        have p456 : 0 ≤ (t452 : Int) := of_decide_eq_true (by first | (with_reducible assumption) | assumption)
        have q456 : t452 < (t383.length : Int) := of_decide_eq_true (by first | (with_reducible assumption) | assumption)
        obtain ⟨ad456, e456, hx456_0, hx456_1, hx456_2, hx456_3⟩ := at_T84 (Kd.R_reads' HO_4.out).2.2 t452 p456 q456
        (try rw [← Nbq111.out] at hx456_3) <;> (try rw [← Nbq111.out] at hw456_3)
        cases e456
        replace p456 := eq_true p456
        replace q456 := eq_true q456
        have p460 : 0 ≤ (t452 : Int) := of_decide_eq_true (by first | (with_reducible assumption) | assumption)
        have q460 : t452 < (t383.length : Int) := of_decide_eq_true (by first | (with_reducible assumption) | assumption)
        obtain ⟨ad460, e460, hx460_0, hx460_1, hx460_2, hx460_3⟩ := at_T84 (Kd.R_reads' HO_4.out).2.2 t452 p460 q460
        (try rw [← Nbq111.out] at hx460_3) <;> (try rw [← Nbq111.out] at hw460_3)
        obtain rfl : ad456 = ad460 := (by injection e460)
        replace p460 := eq_true p460
        replace q460 := eq_true q460
        obtain ⟨Ao127, co127, eo127⟩ := Kd.R_slice HO_8.out
        subst eo127
        have p462 : 0 ≤ (t452 : Int) := of_decide_eq_true (by first | (with_reducible assumption) | assumption)
        have q462 : t452 < (t383.length : Int) := of_decide_eq_true (by first | (with_reducible assumption) | assumption)
        obtain ⟨ad462, e462, hx462_0, hx462_1, hx462_2, hx462_3⟩ := at_T84 (Kd.R_reads' HO_4.out).2.2 t452 p462 q462
        (try rw [← Nbq111.out] at hx462_3) <;> (try rw [← Nbq111.out] at hw462_3)
        obtain rfl : ad456 = ad462 := (by injection e462)
        replace p462 := eq_true p462
        replace q462 := eq_true q462
        have p463 : 0 ≤ (t452 : Int) := of_decide_eq_true (by first | (with_reducible assumption) | assumption)
        have q463 : t452 < (t383.length : Int) := of_decide_eq_true (by first | (with_reducible assumption) | assumption)
        obtain ⟨ad463, e463, hx463_0, hx463_1, hx463_2, hx463_3⟩ := at_T84 (Kd.R_reads' HO_4.out).2.2 t452 p463 q463
        (try rw [← Nbq111.out] at hx463_3) <;> (try rw [← Nbq111.out] at hw463_3)
        obtain rfl : ad456 = ad463 := (by injection e463)
        replace p463 := eq_true p463
        replace q463 := eq_true q463
        go_wp2_with (first | ((with_reducible refine gate_dst (N := 19) rfl ?_); refine wpList_load_row (P := Try.prog) rfl _ _ rfl gb386 ?hx _ _ _ _ BK386.out Try.underlying27 rfl (by kernel_rfl) ?_; (case hx => first | rfl | (go_simp; done))) | (go_at_call 43; (with_reducible refine (laws_has.calls k1 _ _ t400 x9_1 true _ ?side1 ?side2 A61.out).mono ?_); (case side1 => repeat (first | exact (Kd.R_reads' HO_5.out).2.2 | (with_reducible refine Kd.Ca ?_ _) | (with_reducible refine Kd.Cn ?_ _) | (with_reducible refine Kd.Cd ?_))); (case side2 => exact (Kd.R_reads' HO_5.out).2.1); rintro e w' ⟨rfl, ⟨nd, rfl⟩⟩) | (go_at_call 43; (with_reducible refine (laws_has.calls k1 _ _ t409 x9_1 false _ ?side1 ?side2 A66.out).mono ?_); (case side1 => repeat (first | exact (Kd.R_reads' HO_6.out).2.2 | (with_reducible refine Kd.Ca ?_ _) | (with_reducible refine Kd.Cn ?_ _) | (with_reducible refine Kd.Cd ?_))); (case side2 => exact (Kd.R_reads' HO_6.out).2.1); rintro e w' ⟨rfl, ⟨nd, rfl⟩⟩) | (go_at_call 43; (with_reducible refine (laws_has.calls k1 _ _ t436 x9_1 true _ ?side1 ?side2 A108.out).mono ?_); (case side1 => repeat (first | exact (Kd.R_reads' HO_8.out).2.2 | (with_reducible refine Kd.Ca ?_ _) | (with_reducible refine Kd.Cn ?_ _) | (with_reducible refine Kd.Cd ?_))); (case side2 => exact (Kd.R_reads' HO_8.out).2.1); rintro e w' ⟨rfl, ⟨nd, rfl⟩⟩))
        all_goals
          go_roundg k1
          case measure => have := HK1.out; omega
          case rel => exact ⟨(wrap64 (x9_1 + 1)), (by first | rfl | (simp; done) | (simp [*]; done)), H', ⟨by have := HK1.out; omega⟩, ⟨by (with_reducible repeat (first | apply Kd.Ra | apply Kd.Rn | apply Kd.Rd)); exact Kd.R_mono HO_4.out (fun _ hk => trivial)⟩, ⟨by (with_reducible repeat (first | apply Kd.Ra | apply Kd.Rn | apply Kd.Rd)); exact HO_5.out⟩, ⟨by (with_reducible repeat (first | apply Kd.Ra | apply Kd.Rn | apply Kd.Rd)); exact HO_6.out⟩, ⟨by (with_reducible repeat (first | apply Kd.Ra | apply Kd.Rn | apply Kd.Rd)); exact HO_8.out⟩, ⟨by (with_reducible repeat first | apply bN | apply bd | apply ba); exact BK386.out⟩, ⟨by repeat (first | (with_reducible first | exact HB.out | apply wa | apply wN | apply wd | refine ws ?_ GE386.out) | exact HB.out)⟩⟩
      replace c62 := Bool.eq_false_iff.mpr c62
      subst c62
      rw [if_neg (show ¬ (false = true) by decide)] at H
      replace H := Option.bind_eq_some_iff.mp H
      obtain ⟨t478, A2820, H⟩ := H
      try dsimp only at H
      have A282 := Aside0.mk A2820
      clear A2820
      by_cases c283 : ((decide (t445 ≥ 0)) != t478) = true
      · rw [if_pos c283] at H
        exact absurd H (by simp)
      rw [if_neg c283] at H
      have c283b0 : ((decide (t445 ≥ 0)) != t478) = false := by simpa using c283
      (try (have c283b1 : decide ((decide (t445 ≥ 0)) = t478) = true := by simpa using c283))
      (try (have c283b2 : ((decide (t445 ≥ 0)) == t478) = true := by simpa using c283))
      clear c283
      replace H := Option.bind_eq_some_iff.mp H
      obtain ⟨t479, A2840, H⟩ := H
      try dsimp only at H
      have A284 := Aside0.mk A2840
      clear A2840
      by_cases c285 : t479 = true
      rotate_left
      · replace c285 := Bool.eq_false_iff.mpr c285
        subst c285
        rw [if_neg (show ¬ (false = true) by decide)] at H
        by_cases c398 : t445 ≥ 0
        rotate_left
        · rw [if_neg c398] at H
          obtain rfl : t478 = false := by
            cases t478 with
            | false => rfl
            | true => exact absurd c283b0 (by simp [c398])
          have c398b0 : decide (0 ≤ t445) = false := decide_eq_false c398
          clear c398
          replace H := Option.bind_eq_some_iff.mp H
          obtain ⟨t500, A4720, H⟩ := H
          try dsimp only at H
          have A472 := Aside0.mk A4720
          clear A4720
          by_cases c473 : t500 = true
          rotate_left
          · replace c473 := Bool.eq_false_iff.mpr c473
            subst c473
            rw [if_neg (show ¬ (false = true) by decide)] at H
            have H' := Aside0.mk H
            clear H
            obtain ⟨Ao506, co506, eo506⟩ := Kd.R_slice HO_6.out
            subst eo506
            obtain ⟨Ao507, co507, eo507⟩ := Kd.R_slice HO_8.out
            subst eo507
            go_wp2_with (first | ((with_reducible refine gate_dst (N := 19) rfl ?_); refine wpList_load_row (P := Try.prog) rfl _ _ rfl gb386 ?hx _ _ _ _ BK386.out Try.underlying27 rfl (by kernel_rfl) ?_; (case hx => first | rfl | (go_simp; done))) | (go_at_call 43; (with_reducible refine (laws_has.calls k1 _ _ t400 x9_1 false _ ?side1 ?side2 A61.out).mono ?_); (case side1 => repeat (first | exact (Kd.R_reads' HO_5.out).2.2 | (with_reducible refine Kd.Ca ?_ _) | (with_reducible refine Kd.Cn ?_ _) | (with_reducible refine Kd.Cd ?_))); (case side2 => exact (Kd.R_reads' HO_5.out).2.1); rintro e w' ⟨rfl, ⟨nd, rfl⟩⟩) | (go_at_call 43; (with_reducible refine (laws_has.calls k1 _ _ t409 x9_1 false _ ?side1 ?side2 A282.out).mono ?_); (case side1 => repeat (first | exact (Kd.R_reads' HO_6.out).2.2 | (with_reducible refine Kd.Ca ?_ _) | (with_reducible refine Kd.Cn ?_ _) | (with_reducible refine Kd.Cd ?_))); (case side2 => exact (Kd.R_reads' HO_6.out).2.1); rintro e w' ⟨rfl, ⟨nd, rfl⟩⟩) | (go_at_call 43; (with_reducible refine (laws_has.calls k1 _ _ t436 x9_1 false _ ?side1 ?side2 A472.out).mono ?_); (case side1 => repeat (first | exact (Kd.R_reads' HO_8.out).2.2 | (with_reducible refine Kd.Ca ?_ _) | (with_reducible refine Kd.Cn ?_ _) | (with_reducible refine Kd.Cd ?_))); (case side2 => exact (Kd.R_reads' HO_8.out).2.1); rintro e w' ⟨rfl, ⟨nd, rfl⟩⟩))
            all_goals
              go_roundg k1
              case measure => have := HK1.out; omega
              case rel => exact ⟨(wrap64 (x9_1 + 1)), (by first | rfl | (simp; done) | (simp [*]; done)), H', ⟨by have := HK1.out; omega⟩, ⟨by (with_reducible repeat (first | apply Kd.Ra | apply Kd.Rn | apply Kd.Rd)); exact Kd.R_mono HO_4.out (fun _ hk => trivial)⟩, ⟨by (with_reducible repeat (first | apply Kd.Ra | apply Kd.Rn | apply Kd.Rd)); exact HO_5.out⟩, ⟨by (with_reducible repeat (first | apply Kd.Ra | apply Kd.Rn | apply Kd.Rd)); exact HO_6.out⟩, ⟨by (with_reducible repeat (first | apply Kd.Ra | apply Kd.Rn | apply Kd.Rd)); exact HO_8.out⟩, ⟨by (with_reducible repeat first | apply bN | apply bd | apply ba); exact BK386.out⟩, ⟨by repeat (first | (with_reducible first | exact HB.out | apply wa | apply wN | apply wd | refine ws ?_ GE386.out) | exact HB.out)⟩⟩
          subst c473
          rw [if_pos rfl] at H
          by_cases c474 : t445 < 0
          · rw [if_pos c474] at H
            exact absurd H (by simp)
          exact absurd (show t445 < 0 by have := of_decide_eq_false c398b0; omega) c474
        rw [if_pos c398] at H
        obtain rfl : t478 = true := by
          cases t478 with
          | true => rfl
          | false => exact absurd c283b0 (by simp [c398])
        have c398b0 : decide (0 ≤ t445) = true := decide_eq_true c398
        clear c398
        by_cases c399 : t452 < 0
        · rw [if_pos c399] at H
          exact absurd H (by simp)
        rw [if_neg c399] at H
        have c399b0 : decide (t452 < 0) = false := decide_eq_false c399
        clear c399
        by_cases c400 : 0 ≤ t452
        rotate_left
        · rw [if_neg c400] at H
          exact absurd H (by simp)
        rw [if_pos c400] at H
        have c400b0 : decide (0 ≤ t452) = true := decide_eq_true c400
        clear c400
        by_cases c401 : t452 < (t383.length : Int)
        rotate_left
        · rw [if_neg c401] at H
          exact absurd H (by simp)
        rw [if_pos c401] at H
        have c401b0 : decide (t452 < (t383.length : Int)) = true := decide_eq_true c401
        clear c401
        by_cases c402 : ((rd_T84 t383 t452).f1) = x9_1
        · rw [if_pos c402] at H
          have c402b0 : (((rd_T84 t383 t452).f1) == x9_1) = true := beq_iff_eq.mpr c402
          have c402b1 : (((rd_T84 t383 t452).f1) != x9_1) = false := bne_eq_false_iff_eq.mpr c402
          clear c402
          replace H := Option.bind_eq_some_iff.mp H
          obtain ⟨t493, A4030, H⟩ := H
          try dsimp only at H
          have A403 := Aside0.mk A4030
          clear A4030
          by_cases c404 : t493 = true
          rotate_left
          · replace c404 := Bool.eq_false_iff.mpr c404
            subst c404
            rw [if_neg (show ¬ (false = true) by decide)] at H
            have H' := Aside0.mk H
            clear H
            obtain ⟨Ao435, co435, eo435⟩ := Kd.R_slice HO_6.out
            subst eo435
            have p492 : 0 ≤ (t452 : Int) := of_decide_eq_true (by first | (with_reducible assumption) | assumption)
            have q492 : t452 < (t383.length : Int) := of_decide_eq_true (by first | (with_reducible assumption) | assumption)
            obtain ⟨ad492, e492, hx492_0, hx492_1, hx492_2, hx492_3⟩ := at_T84 (Kd.R_reads' HO_4.out).2.2 t452 p492 q492
            cases e492
            replace p492 := eq_true p492
            replace q492 := eq_true q492
            obtain ⟨Ao436, co436, eo436⟩ := Kd.R_slice HO_8.out
            subst eo436
            go_wp2_with (first | ((with_reducible refine gate_dst (N := 19) rfl ?_); refine wpList_load_row (P := Try.prog) rfl _ _ rfl gb386 ?hx _ _ _ _ BK386.out Try.underlying27 rfl (by kernel_rfl) ?_; (case hx => first | rfl | (go_simp; done))) | (go_at_call 43; (with_reducible refine (laws_has.calls k1 _ _ t400 x9_1 false _ ?side1 ?side2 A61.out).mono ?_); (case side1 => repeat (first | exact (Kd.R_reads' HO_5.out).2.2 | (with_reducible refine Kd.Ca ?_ _) | (with_reducible refine Kd.Cn ?_ _) | (with_reducible refine Kd.Cd ?_))); (case side2 => exact (Kd.R_reads' HO_5.out).2.1); rintro e w' ⟨rfl, ⟨nd, rfl⟩⟩) | (go_at_call 43; (with_reducible refine (laws_has.calls k1 _ _ t409 x9_1 true _ ?side1 ?side2 A282.out).mono ?_); (case side1 => repeat (first | exact (Kd.R_reads' HO_6.out).2.2 | (with_reducible refine Kd.Ca ?_ _) | (with_reducible refine Kd.Cn ?_ _) | (with_reducible refine Kd.Cd ?_))); (case side2 => exact (Kd.R_reads' HO_6.out).2.1); rintro e w' ⟨rfl, ⟨nd, rfl⟩⟩) | (go_at_call 43; (with_reducible refine (laws_has.calls k1 _ _ t436 x9_1 false _ ?side1 ?side2 A403.out).mono ?_); (case side1 => repeat (first | exact (Kd.R_reads' HO_8.out).2.2 | (with_reducible refine Kd.Ca ?_ _) | (with_reducible refine Kd.Cn ?_ _) | (with_reducible refine Kd.Cd ?_))); (case side2 => exact (Kd.R_reads' HO_8.out).2.1); rintro e w' ⟨rfl, ⟨nd, rfl⟩⟩))
            all_goals
              go_roundg k1
              case measure => have := HK1.out; omega
              case rel => exact ⟨(wrap64 (x9_1 + 1)), (by first | rfl | (simp; done) | (simp [*]; done)), H', ⟨by have := HK1.out; omega⟩, ⟨by (with_reducible repeat (first | apply Kd.Ra | apply Kd.Rn | apply Kd.Rd)); exact Kd.R_mono HO_4.out (fun _ hk => trivial)⟩, ⟨by (with_reducible repeat (first | apply Kd.Ra | apply Kd.Rn | apply Kd.Rd)); exact HO_5.out⟩, ⟨by (with_reducible repeat (first | apply Kd.Ra | apply Kd.Rn | apply Kd.Rd)); exact HO_6.out⟩, ⟨by (with_reducible repeat (first | apply Kd.Ra | apply Kd.Rn | apply Kd.Rd)); exact HO_8.out⟩, ⟨by (with_reducible repeat first | apply bN | apply bd | apply ba); exact BK386.out⟩, ⟨by repeat (first | (with_reducible first | exact HB.out | apply wa | apply wN | apply wd | refine ws ?_ GE386.out) | exact HB.out)⟩⟩
          subst c404
          rw [if_pos rfl] at H
          by_cases c405 : t445 < 0
          · rw [if_pos c405] at H
            exact absurd H (by simp)
          rw [if_neg c405] at H
          have c405b0 : decide (t445 < 0) = false := decide_eq_false c405
          clear c405
          obtain ⟨bq406, hbq406⟩ : ∃ b_ : Bool, b_ = ((rd_T84 t383 t452).f3) := ⟨_, rfl⟩
          replace H : (if bq406 = true then (none) else (if ((rd_T84 t383 t452).f2) = (-1) then (laws_FnTeams.l0 k1 t383 t400 t409 (wrap64 ((t418.length : Int) + (t427.length : Int))) t436 (wrap64 (x9_1 + 1)) t380 t381 t382) else (none))) = some r := by rw [← hbq406] at H; exact H
          have Nbq406 := Aside0.mk hbq406
          clear hbq406
          by_cases c407 : bq406 = true
          · subst c407
            rw [if_pos rfl] at H
            exact absurd H (by simp)
          replace c407 := Bool.eq_false_iff.mpr c407
          subst c407
          rw [if_neg (show ¬ (false = true) by decide)] at H
          by_cases c408 : ((rd_T84 t383 t452).f2) = (-1)
          rotate_left
          · rw [if_neg c408] at H
            exact absurd H (by simp)
          rw [if_pos c408] at H
          have c408b0 : (((rd_T84 t383 t452).f2) == (-1)) = true := beq_iff_eq.mpr c408
          have c408b1 : (((rd_T84 t383 t452).f2) != (-1)) = false := bne_eq_false_iff_eq.mpr c408
          clear c408
          have H' := Aside0.mk H
          clear H
          obtain ⟨Ao421, co421, eo421⟩ := Kd.R_slice HO_6.out
          subst eo421
          have p492 : 0 ≤ (t452 : Int) := of_decide_eq_true (by first | (with_reducible assumption) | assumption)
          have q492 : t452 < (t383.length : Int) := of_decide_eq_true (by first | (with_reducible assumption) | assumption)
          obtain ⟨ad492, e492, hx492_0, hx492_1, hx492_2, hx492_3⟩ := at_T84 (Kd.R_reads' HO_4.out).2.2 t452 p492 q492
          (try rw [← Nbq406.out] at hx492_3) <;> (try rw [← Nbq406.out] at hw492_3)
          cases e492
          replace p492 := eq_true p492
          replace q492 := eq_true q492
          obtain ⟨Ao422, co422, eo422⟩ := Kd.R_slice HO_8.out
          subst eo422
          have p494 : 0 ≤ (t452 : Int) := of_decide_eq_true (by first | (with_reducible assumption) | assumption)
          have q494 : t452 < (t383.length : Int) := of_decide_eq_true (by first | (with_reducible assumption) | assumption)
          obtain ⟨ad494, e494, hx494_0, hx494_1, hx494_2, hx494_3⟩ := at_T84 (Kd.R_reads' HO_4.out).2.2 t452 p494 q494
          (try rw [← Nbq406.out] at hx494_3) <;> (try rw [← Nbq406.out] at hw494_3)
          obtain rfl : ad492 = ad494 := (by injection e494)
          replace p494 := eq_true p494
          replace q494 := eq_true q494
          have p495 : 0 ≤ (t452 : Int) := of_decide_eq_true (by first | (with_reducible assumption) | assumption)
          have q495 : t452 < (t383.length : Int) := of_decide_eq_true (by first | (with_reducible assumption) | assumption)
          obtain ⟨ad495, e495, hx495_0, hx495_1, hx495_2, hx495_3⟩ := at_T84 (Kd.R_reads' HO_4.out).2.2 t452 p495 q495
          (try rw [← Nbq406.out] at hx495_3) <;> (try rw [← Nbq406.out] at hw495_3)
          obtain rfl : ad492 = ad495 := (by injection e495)
          replace p495 := eq_true p495
          replace q495 := eq_true q495
          go_wp2_with (first | ((with_reducible refine gate_dst (N := 19) rfl ?_); refine wpList_load_row (P := Try.prog) rfl _ _ rfl gb386 ?hx _ _ _ _ BK386.out Try.underlying27 rfl (by kernel_rfl) ?_; (case hx => first | rfl | (go_simp; done))) | (go_at_call 43; (with_reducible refine (laws_has.calls k1 _ _ t400 x9_1 false _ ?side1 ?side2 A61.out).mono ?_); (case side1 => repeat (first | exact (Kd.R_reads' HO_5.out).2.2 | (with_reducible refine Kd.Ca ?_ _) | (with_reducible refine Kd.Cn ?_ _) | (with_reducible refine Kd.Cd ?_))); (case side2 => exact (Kd.R_reads' HO_5.out).2.1); rintro e w' ⟨rfl, ⟨nd, rfl⟩⟩) | (go_at_call 43; (with_reducible refine (laws_has.calls k1 _ _ t409 x9_1 true _ ?side1 ?side2 A282.out).mono ?_); (case side1 => repeat (first | exact (Kd.R_reads' HO_6.out).2.2 | (with_reducible refine Kd.Ca ?_ _) | (with_reducible refine Kd.Cn ?_ _) | (with_reducible refine Kd.Cd ?_))); (case side2 => exact (Kd.R_reads' HO_6.out).2.1); rintro e w' ⟨rfl, ⟨nd, rfl⟩⟩) | (go_at_call 43; (with_reducible refine (laws_has.calls k1 _ _ t436 x9_1 true _ ?side1 ?side2 A403.out).mono ?_); (case side1 => repeat (first | exact (Kd.R_reads' HO_8.out).2.2 | (with_reducible refine Kd.Ca ?_ _) | (with_reducible refine Kd.Cn ?_ _) | (with_reducible refine Kd.Cd ?_))); (case side2 => exact (Kd.R_reads' HO_8.out).2.1); rintro e w' ⟨rfl, ⟨nd, rfl⟩⟩))
          all_goals
            go_roundg k1
            case measure => have := HK1.out; omega
            case rel => exact ⟨(wrap64 (x9_1 + 1)), (by first | rfl | (simp; done) | (simp [*]; done)), H', ⟨by have := HK1.out; omega⟩, ⟨by (with_reducible repeat (first | apply Kd.Ra | apply Kd.Rn | apply Kd.Rd)); exact Kd.R_mono HO_4.out (fun _ hk => trivial)⟩, ⟨by (with_reducible repeat (first | apply Kd.Ra | apply Kd.Rn | apply Kd.Rd)); exact HO_5.out⟩, ⟨by (with_reducible repeat (first | apply Kd.Ra | apply Kd.Rn | apply Kd.Rd)); exact HO_6.out⟩, ⟨by (with_reducible repeat (first | apply Kd.Ra | apply Kd.Rn | apply Kd.Rd)); exact HO_8.out⟩, ⟨by (with_reducible repeat first | apply bN | apply bd | apply ba); exact BK386.out⟩, ⟨by repeat (first | (with_reducible first | exact HB.out | apply wa | apply wN | apply wd | refine ws ?_ GE386.out) | exact HB.out)⟩⟩
        rw [if_neg c402] at H
        have c402b0 : (((rd_T84 t383 t452).f1) == x9_1) = false := beq_eq_false_iff_ne.mpr c402
        have c402b1 : (((rd_T84 t383 t452).f1) != x9_1) = true := bne_iff_ne.mpr c402
        by_cases c437 : ((rd_T84 t383 t452).f2) = x9_1
        rotate_left
        · rw [if_neg c437] at H
          exact absurd H (by simp)
        rw [if_pos c437] at H
        have c437b0 : (((rd_T84 t383 t452).f2) == x9_1) = true := beq_iff_eq.mpr c437
        have c437b1 : (((rd_T84 t383 t452).f2) != x9_1) = false := bne_eq_false_iff_eq.mpr c437
        clear c437
        replace H := Option.bind_eq_some_iff.mp H
        obtain ⟨t497, A4380, H⟩ := H
        try dsimp only at H
        have A438 := Aside0.mk A4380
        clear A4380
        by_cases c439 : t497 = true
        rotate_left
        · replace c439 := Bool.eq_false_iff.mpr c439
          subst c439
          rw [if_neg (show ¬ (false = true) by decide)] at H
          have H' := Aside0.mk H
          clear H
          obtain ⟨Ao470, co470, eo470⟩ := Kd.R_slice HO_6.out
          subst eo470
          have p492 : 0 ≤ (t452 : Int) := of_decide_eq_true (by first | (with_reducible assumption) | assumption)
          have q492 : t452 < (t383.length : Int) := of_decide_eq_true (by first | (with_reducible assumption) | assumption)
          obtain ⟨ad492, e492, hx492_0, hx492_1, hx492_2, hx492_3⟩ := at_T84 (Kd.R_reads' HO_4.out).2.2 t452 p492 q492
          cases e492
          replace p492 := eq_true p492
          replace q492 := eq_true q492
          have p496 : 0 ≤ (t452 : Int) := of_decide_eq_true (by first | (with_reducible assumption) | assumption)
          have q496 : t452 < (t383.length : Int) := of_decide_eq_true (by first | (with_reducible assumption) | assumption)
          obtain ⟨ad496, e496, hx496_0, hx496_1, hx496_2, hx496_3⟩ := at_T84 (Kd.R_reads' HO_4.out).2.2 t452 p496 q496
          obtain rfl : ad492 = ad496 := (by injection e496)
          replace p496 := eq_true p496
          replace q496 := eq_true q496
          obtain ⟨Ao471, co471, eo471⟩ := Kd.R_slice HO_8.out
          subst eo471
          go_wp2_with (first | ((with_reducible refine gate_dst (N := 19) rfl ?_); refine wpList_load_row (P := Try.prog) rfl _ _ rfl gb386 ?hx _ _ _ _ BK386.out Try.underlying27 rfl (by kernel_rfl) ?_; (case hx => first | rfl | (go_simp; done))) | (go_at_call 43; (with_reducible refine (laws_has.calls k1 _ _ t400 x9_1 false _ ?side1 ?side2 A61.out).mono ?_); (case side1 => repeat (first | exact (Kd.R_reads' HO_5.out).2.2 | (with_reducible refine Kd.Ca ?_ _) | (with_reducible refine Kd.Cn ?_ _) | (with_reducible refine Kd.Cd ?_))); (case side2 => exact (Kd.R_reads' HO_5.out).2.1); rintro e w' ⟨rfl, ⟨nd, rfl⟩⟩) | (go_at_call 43; (with_reducible refine (laws_has.calls k1 _ _ t409 x9_1 true _ ?side1 ?side2 A282.out).mono ?_); (case side1 => repeat (first | exact (Kd.R_reads' HO_6.out).2.2 | (with_reducible refine Kd.Ca ?_ _) | (with_reducible refine Kd.Cn ?_ _) | (with_reducible refine Kd.Cd ?_))); (case side2 => exact (Kd.R_reads' HO_6.out).2.1); rintro e w' ⟨rfl, ⟨nd, rfl⟩⟩) | (go_at_call 43; (with_reducible refine (laws_has.calls k1 _ _ t436 x9_1 false _ ?side1 ?side2 A438.out).mono ?_); (case side1 => repeat (first | exact (Kd.R_reads' HO_8.out).2.2 | (with_reducible refine Kd.Ca ?_ _) | (with_reducible refine Kd.Cn ?_ _) | (with_reducible refine Kd.Cd ?_))); (case side2 => exact (Kd.R_reads' HO_8.out).2.1); rintro e w' ⟨rfl, ⟨nd, rfl⟩⟩))
          all_goals
            go_roundg k1
            case measure => have := HK1.out; omega
            case rel => exact ⟨(wrap64 (x9_1 + 1)), (by first | rfl | (simp; done) | (simp [*]; done)), H', ⟨by have := HK1.out; omega⟩, ⟨by (with_reducible repeat (first | apply Kd.Ra | apply Kd.Rn | apply Kd.Rd)); exact Kd.R_mono HO_4.out (fun _ hk => trivial)⟩, ⟨by (with_reducible repeat (first | apply Kd.Ra | apply Kd.Rn | apply Kd.Rd)); exact HO_5.out⟩, ⟨by (with_reducible repeat (first | apply Kd.Ra | apply Kd.Rn | apply Kd.Rd)); exact HO_6.out⟩, ⟨by (with_reducible repeat (first | apply Kd.Ra | apply Kd.Rn | apply Kd.Rd)); exact HO_8.out⟩, ⟨by (with_reducible repeat first | apply bN | apply bd | apply ba); exact BK386.out⟩, ⟨by repeat (first | (with_reducible first | exact HB.out | apply wa | apply wN | apply wd | refine ws ?_ GE386.out) | exact HB.out)⟩⟩
        subst c439
        rw [if_pos rfl] at H
        by_cases c440 : t445 < 0
        · rw [if_pos c440] at H
          exact absurd H (by simp)
        rw [if_neg c440] at H
        have c440b0 : decide (t445 < 0) = false := decide_eq_false c440
        clear c440
        obtain ⟨bq441, hbq441⟩ : ∃ b_ : Bool, b_ = ((rd_T84 t383 t452).f3) := ⟨_, rfl⟩
        replace H : (if bq441 = true then (none) else (if ((rd_T84 t383 t452).f2) = (-1) then (laws_FnTeams.l0 k1 t383 t400 t409 (wrap64 ((t418.length : Int) + (t427.length : Int))) t436 (wrap64 (x9_1 + 1)) t380 t381 t382) else (none))) = some r := by rw [← hbq441] at H; exact H
        have Nbq441 := Aside0.mk hbq441
        clear hbq441
        by_cases c442 : bq441 = true
        · subst c442
          rw [if_pos rfl] at H
          exact absurd H (by simp)
        replace c442 := Bool.eq_false_iff.mpr c442
        subst c442
        rw [if_neg (show ¬ (false = true) by decide)] at H
        by_cases c443 : ((rd_T84 t383 t452).f2) = (-1)
        rotate_left
        · rw [if_neg c443] at H
          exact absurd H (by simp)
        rw [if_pos c443] at H
        have c443b0 : (((rd_T84 t383 t452).f2) == (-1)) = true := beq_iff_eq.mpr c443
        have c443b1 : (((rd_T84 t383 t452).f2) != (-1)) = false := bne_eq_false_iff_eq.mpr c443
        clear c443
        have H' := Aside0.mk H
        clear H
        obtain ⟨Ao456, co456, eo456⟩ := Kd.R_slice HO_6.out
        subst eo456
        have p492 : 0 ≤ (t452 : Int) := of_decide_eq_true (by first | (with_reducible assumption) | assumption)
        have q492 : t452 < (t383.length : Int) := of_decide_eq_true (by first | (with_reducible assumption) | assumption)
        obtain ⟨ad492, e492, hx492_0, hx492_1, hx492_2, hx492_3⟩ := at_T84 (Kd.R_reads' HO_4.out).2.2 t452 p492 q492
        (try rw [← Nbq441.out] at hx492_3) <;> (try rw [← Nbq441.out] at hw492_3)
        cases e492
        replace p492 := eq_true p492
        replace q492 := eq_true q492
        have p496 : 0 ≤ (t452 : Int) := of_decide_eq_true (by first | (with_reducible assumption) | assumption)
        have q496 : t452 < (t383.length : Int) := of_decide_eq_true (by first | (with_reducible assumption) | assumption)
        obtain ⟨ad496, e496, hx496_0, hx496_1, hx496_2, hx496_3⟩ := at_T84 (Kd.R_reads' HO_4.out).2.2 t452 p496 q496
        (try rw [← Nbq441.out] at hx496_3) <;> (try rw [← Nbq441.out] at hw496_3)
        obtain rfl : ad492 = ad496 := (by injection e496)
        replace p496 := eq_true p496
        replace q496 := eq_true q496
        obtain ⟨Ao457, co457, eo457⟩ := Kd.R_slice HO_8.out
        subst eo457
        have p498 : 0 ≤ (t452 : Int) := of_decide_eq_true (by first | (with_reducible assumption) | assumption)
        have q498 : t452 < (t383.length : Int) := of_decide_eq_true (by first | (with_reducible assumption) | assumption)
        obtain ⟨ad498, e498, hx498_0, hx498_1, hx498_2, hx498_3⟩ := at_T84 (Kd.R_reads' HO_4.out).2.2 t452 p498 q498
        (try rw [← Nbq441.out] at hx498_3) <;> (try rw [← Nbq441.out] at hw498_3)
        obtain rfl : ad492 = ad498 := (by injection e498)
        replace p498 := eq_true p498
        replace q498 := eq_true q498
        have p499 : 0 ≤ (t452 : Int) := of_decide_eq_true (by first | (with_reducible assumption) | assumption)
        have q499 : t452 < (t383.length : Int) := of_decide_eq_true (by first | (with_reducible assumption) | assumption)
        obtain ⟨ad499, e499, hx499_0, hx499_1, hx499_2, hx499_3⟩ := at_T84 (Kd.R_reads' HO_4.out).2.2 t452 p499 q499
        (try rw [← Nbq441.out] at hx499_3) <;> (try rw [← Nbq441.out] at hw499_3)
        obtain rfl : ad492 = ad499 := (by injection e499)
        replace p499 := eq_true p499
        replace q499 := eq_true q499
        go_wp2_with (first | ((with_reducible refine gate_dst (N := 19) rfl ?_); refine wpList_load_row (P := Try.prog) rfl _ _ rfl gb386 ?hx _ _ _ _ BK386.out Try.underlying27 rfl (by kernel_rfl) ?_; (case hx => first | rfl | (go_simp; done))) | (go_at_call 43; (with_reducible refine (laws_has.calls k1 _ _ t400 x9_1 false _ ?side1 ?side2 A61.out).mono ?_); (case side1 => repeat (first | exact (Kd.R_reads' HO_5.out).2.2 | (with_reducible refine Kd.Ca ?_ _) | (with_reducible refine Kd.Cn ?_ _) | (with_reducible refine Kd.Cd ?_))); (case side2 => exact (Kd.R_reads' HO_5.out).2.1); rintro e w' ⟨rfl, ⟨nd, rfl⟩⟩) | (go_at_call 43; (with_reducible refine (laws_has.calls k1 _ _ t409 x9_1 true _ ?side1 ?side2 A282.out).mono ?_); (case side1 => repeat (first | exact (Kd.R_reads' HO_6.out).2.2 | (with_reducible refine Kd.Ca ?_ _) | (with_reducible refine Kd.Cn ?_ _) | (with_reducible refine Kd.Cd ?_))); (case side2 => exact (Kd.R_reads' HO_6.out).2.1); rintro e w' ⟨rfl, ⟨nd, rfl⟩⟩) | (go_at_call 43; (with_reducible refine (laws_has.calls k1 _ _ t436 x9_1 true _ ?side1 ?side2 A438.out).mono ?_); (case side1 => repeat (first | exact (Kd.R_reads' HO_8.out).2.2 | (with_reducible refine Kd.Ca ?_ _) | (with_reducible refine Kd.Cn ?_ _) | (with_reducible refine Kd.Cd ?_))); (case side2 => exact (Kd.R_reads' HO_8.out).2.1); rintro e w' ⟨rfl, ⟨nd, rfl⟩⟩))
        all_goals
          go_roundg k1
          case measure => have := HK1.out; omega
          case rel => exact ⟨(wrap64 (x9_1 + 1)), (by first | rfl | (simp; done) | (simp [*]; done)), H', ⟨by have := HK1.out; omega⟩, ⟨by (with_reducible repeat (first | apply Kd.Ra | apply Kd.Rn | apply Kd.Rd)); exact Kd.R_mono HO_4.out (fun _ hk => trivial)⟩, ⟨by (with_reducible repeat (first | apply Kd.Ra | apply Kd.Rn | apply Kd.Rd)); exact HO_5.out⟩, ⟨by (with_reducible repeat (first | apply Kd.Ra | apply Kd.Rn | apply Kd.Rd)); exact HO_6.out⟩, ⟨by (with_reducible repeat (first | apply Kd.Ra | apply Kd.Rn | apply Kd.Rd)); exact HO_8.out⟩, ⟨by (with_reducible repeat first | apply bN | apply bd | apply ba); exact BK386.out⟩, ⟨by repeat (first | (with_reducible first | exact HB.out | apply wa | apply wN | apply wd | refine ws ?_ GE386.out) | exact HB.out)⟩⟩
      subst c285
      exact absurd (A61.out.symm.trans A284.out) (by simp)

/-- THE ONE PURE STATEMENT of laws_FnTeams: yours. -/
def laws_FnTeams.Pure : Prop := ∀ (l0 : List Int), l0.length ≤ maxLen → l0.length * 1 ≤ 140737488351232 → (∀ x ∈ l0, (Lit.int .u8 x).wf = true) → ∃ k, laws_FnTeams.f k l0 = some true
theorem laws_FnTeams.walk (P : laws_FnTeams.Pure) (a0 : Option Addr) (len0 cap0 : Nat) (z0 : List Int) (w : World) (w0 : (a0 = none ∧ len0 = 0 ∧ cap0 = 0 ∧ z0 = []) ∨ ∃ x, a0 = some x ∧ len0 ≤ cap0 ∧ cap0 ≤ maxLen ∧ z0.length = cap0 ∧ (∀ i, i < z0.length → w.cell? (x.add i) = some (.int .u8 (z0.getD i 0))) ∧ ∀ n ∈ z0, (Lit.int .u8 n).wf = true) (y0 : len0 * 1 ≤ 140737488351232) :
    Calls Try.prog 7 #[.slice a0 len0 cap0] w fun e w' => e = .returned (.bool true) ∧ Below w.heap.size w w' := by
  obtain ⟨l0, rfl, hr0, hm0, hw0, hc0⟩ := ReadsInt.ofRowC w0
  obtain ⟨k, h⟩ := P l0 hm0 y0 hw0
  refine (laws_FnTeams.calls k _ _ l0 true w (Kd.C_of_reads (d := (0 : Int)) (h1 := fun _ => rfl) hr0) hc0 h).mono ?_
  rintro e w' ⟨rfl, hd⟩
  exact ⟨rfl, hd⟩

end Go.Proofs.Ytfinjkjnoobbjaa.MFnTeams
