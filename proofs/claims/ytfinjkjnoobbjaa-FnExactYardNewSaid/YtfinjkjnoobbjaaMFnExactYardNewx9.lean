/- Made by a program of this session (out of the kit's print, with hand-made contracts): what each Go function that the law reaches computes, and that the machine's call does so. -/
import Derived.Test.YtfinjkjnoobbjaaMFnExactYardNewx0
import Derived.Test.YtfinjkjnoobbjaaMFnExactYardNewx5
import Derived.Test.YtfinjkjnoobbjaaMFnExactYardNewx6
import Derived.Test.YtfinjkjnoobbjaaMFnExactYardNewx7
import Derived.Test.YtfinjkjnoobbjaaMFnExactYardNewx8
namespace Go.Proofs.Ytfinjkjnoobbjaa.MFnExactYardNew
open Go.RowKit Go.Proofs.YtfinjkjnoobbjaaW.PrintWords Go.Proofs.YtfinjkjnoobbjaaW.PrintLast Go.Proofs.YtfinjkjnoobbjaaW.PrintMore
attribute [local go_sem] max2_int min2_int max_two min_two max_three min_three max_four min_four   -- for this text's walks alone
set_option linter.unusedVariables false
set_option linter.unusedSimpArgs false

/-! ### laws_eqYard: function 13 -/
def laws_eqYard.f (k : Nat) (a0_0 : Int) (a0_1 : Int) (a0_2 : ByteArray) (a0_3 : Int) (a0_4 : Int) (a0_5 : Int) (a0_6 : Int) (l0_7 : List (S84)) (a0_8 : Int) (a0_9 : Int) (l0_10 : List Int) (a0_11 : Int) (a0_12 : Bool) (a0_13 : Int) (a0_14 : Int) (l0_15 : List (S143)) (l0_16 : List (S141)) (l0_17 : List Int) (a1_0 : Int) (a1_1 : Int) (a1_2 : ByteArray) (a1_3 : Int) (a1_4 : Int) (a1_5 : Int) (a1_6 : Int) (l1_7 : List (S84)) (a1_8 : Int) (a1_9 : Int) (l1_10 : List Int) (a1_11 : Int) (a1_12 : Bool) (a1_13 : Int) (a1_14 : Int) (l1_15 : List (S143)) (l1_16 : List (S141)) (l1_17 : List Int) : Option (Bool) := (laws_eqSetup.f a0_0 a0_1 a0_2 a0_3 a0_4 a0_5 a0_6 a1_0 a1_1 a1_2 a1_3 a1_4 a1_5 a1_6).bind fun t199 => (if t199 = true then ((laws_eqRobotS.f k l0_7 l1_7).bind fun t200 => (if t200 = true then ((laws_eqWindow.f k a0_8 a0_9 l0_10 a1_8 a1_9 l1_10).bind fun t201 => (if t201 = true then (if a0_11 = a1_11 then (if (a0_12 != a1_12) = true then (none) else ((laws_eqPlan.f k a0_13 a0_14 l0_15 a1_13 a1_14 l1_15).bind fun t202 => (if t202 = true then ((laws_eqJobS.f k l0_16 l1_16).bind fun t203 => (if t203 = true then ((laws_eqIntS.f k l0_17 l1_17).bind fun t204 => (if t204 = true then (some true) else (none))) else (none))) else (none)))) else (none)) else (none))) else (none))) else (none))
theorem laws_eqYard.mono : ∀ a0 a1 a2 a3 a4 a5 a6 a7 a8 a9 a10 a11 a12 a13 a14 a15 a16 a17 a18 a19 a20 a21 a22 a23 a24 a25 a26 a27 a28 a29 a30 a31 a32 a33 a34 a35 k, LeO (laws_eqYard.f k a0 a1 a2 a3 a4 a5 a6 a7 a8 a9 a10 a11 a12 a13 a14 a15 a16 a17 a18 a19 a20 a21 a22 a23 a24 a25 a26 a27 a28 a29 a30 a31 a32 a33 a34 a35) (laws_eqYard.f (k + 1) a0 a1 a2 a3 a4 a5 a6 a7 a8 a9 a10 a11 a12 a13 a14 a15 a16 a17 a18 a19 a20 a21 a22 a23 a24 a25 a26 a27 a28 a29 a30 a31 a32 a33 a34 a35) := by
  intro a0 a1 a2 a3 a4 a5 a6 a7 a8 a9 a10 a11 a12 a13 a14 a15 a16 a17 a18 a19 a20 a21 a22 a23 a24 a25 a26 a27 a28 a29 a30 a31 a32 a33 a34 a35 k
  unfold laws_eqYard.f
  repeat' first
      | (with_reducible exact laws_eqIntS.mono _ _ _)
      | (with_reducible exact laws_eqJobS.mono _ _ _)
      | (with_reducible exact laws_eqPlan.mono _ _ _ _ _ _ _)
      | (with_reducible exact laws_eqRobotS.mono _ _ _)
      | (with_reducible exact laws_eqWindow.mono _ _ _ _ _ _ _)
      | (with_reducible exact LeO.refl _)
      | (with_reducible exact LeO.none _)
      | (with_reducible refine LeO.ite ?_ ?_)
      | (with_reducible refine LeO.bind ?_ (fun _ => ?_))
      | exact laws_eqIntS.mono _ _ _
      | exact laws_eqJobS.mono _ _ _
      | exact laws_eqPlan.mono _ _ _ _ _ _ _
      | exact laws_eqRobotS.mono _ _ _
      | exact laws_eqWindow.mono _ _ _ _ _ _ _
      | exact LeO.none _
      | refine LeO.ite ?_ ?_
      | refine LeO.bind ?_ (fun _ => ?_)
set_option maxHeartbeats 8000000 in
set_option maxRecDepth 100000 in
theorem laws_eqYard.calls (k : Nat) (a0_0 : Int) (a0_1 : Int) (a0_2 : ByteArray) (a0_3 : Int) (a0_4 : Int) (a0_5 : Int) (a0_6 : Int) (A0_7 : Option Addr) (c0_7 : Nat) (l0_7 : List (S84)) (a0_8 : Int) (a0_9 : Int) (A0_10 : Option Addr) (c0_10 : Nat) (l0_10 : List Int) (a0_11 : Int) (a0_12 : Bool) (a0_13 : Int) (a0_14 : Int) (A0_15 : Option Addr) (c0_15 : Nat) (l0_15 : List (S143)) (A0_16 : Option Addr) (c0_16 : Nat) (l0_16 : List (S141)) (A0_17 : Option Addr) (c0_17 : Nat) (l0_17 : List Int) (a1_0 : Int) (a1_1 : Int) (a1_2 : ByteArray) (a1_3 : Int) (a1_4 : Int) (a1_5 : Int) (a1_6 : Int) (A1_7 : Option Addr) (c1_7 : Nat) (l1_7 : List (S84)) (a1_8 : Int) (a1_9 : Int) (A1_10 : Option Addr) (c1_10 : Nat) (l1_10 : List Int) (a1_11 : Int) (a1_12 : Bool) (a1_13 : Int) (a1_14 : Int) (A1_15 : Option Addr) (c1_15 : Nat) (l1_15 : List (S143)) (A1_16 : Option Addr) (c1_16 : Nat) (l1_16 : List (S141)) (A1_17 : Option Addr) (c1_17 : Nat) (l1_17 : List Int) (r : Bool) (w : World) (hr0_7 : Kd.C k84 w A0_7 l0_7.length l0_7) (hc0_7 : l0_7.length ≤ c0_7) (hr0_10 : Kd.C (Kd.int .i64) w A0_10 l0_10.length l0_10) (hc0_10 : l0_10.length ≤ c0_10) (hr0_15 : Kd.C k143 w A0_15 l0_15.length l0_15) (hc0_15 : l0_15.length ≤ c0_15) (hr0_16 : Kd.C k141 w A0_16 l0_16.length l0_16) (hc0_16 : l0_16.length ≤ c0_16) (hr0_17 : Kd.C (Kd.int .i64) w A0_17 l0_17.length l0_17) (hc0_17 : l0_17.length ≤ c0_17) (hr1_7 : Kd.C k84 w A1_7 l1_7.length l1_7) (hc1_7 : l1_7.length ≤ c1_7) (hr1_10 : Kd.C (Kd.int .i64) w A1_10 l1_10.length l1_10) (hc1_10 : l1_10.length ≤ c1_10) (hr1_15 : Kd.C k143 w A1_15 l1_15.length l1_15) (hc1_15 : l1_15.length ≤ c1_15) (hr1_16 : Kd.C k141 w A1_16 l1_16.length l1_16) (hc1_16 : l1_16.length ≤ c1_16) (hr1_17 : Kd.C (Kd.int .i64) w A1_17 l1_17.length l1_17) (hc1_17 : l1_17.length ≤ c1_17) (h : laws_eqYard.f k a0_0 a0_1 a0_2 a0_3 a0_4 a0_5 a0_6 l0_7 a0_8 a0_9 l0_10 a0_11 a0_12 a0_13 a0_14 l0_15 l0_16 l0_17 a1_0 a1_1 a1_2 a1_3 a1_4 a1_5 a1_6 l1_7 a1_8 a1_9 l1_10 a1_11 a1_12 a1_13 a1_14 l1_15 l1_16 l1_17 = some r) :
    Calls Try.prog 13 #[.agg #[.int .i64 a0_0, .int .i64 a0_1, .string a0_2, .int .i64 a0_3, .int .i64 a0_4, .int .i64 a0_5, .int .i64 a0_6, .slice A0_7 l0_7.length c0_7, .int .i64 a0_8, .int .i64 a0_9, .slice A0_10 l0_10.length c0_10, .int .i64 a0_11, .bool a0_12, .int .i64 a0_13, .int .i64 a0_14, .slice A0_15 l0_15.length c0_15, .slice A0_16 l0_16.length c0_16, .slice A0_17 l0_17.length c0_17], .agg #[.int .i64 a1_0, .int .i64 a1_1, .string a1_2, .int .i64 a1_3, .int .i64 a1_4, .int .i64 a1_5, .int .i64 a1_6, .slice A1_7 l1_7.length c1_7, .int .i64 a1_8, .int .i64 a1_9, .slice A1_10 l1_10.length c1_10, .int .i64 a1_11, .bool a1_12, .int .i64 a1_13, .int .i64 a1_14, .slice A1_15 l1_15.length c1_15, .slice A1_16 l1_16.length c1_16, .slice A1_17 l1_17.length c1_17]] w fun e w' => e = .returned (.bool r) ∧ Below w.heap.size w w' := by
  have hu39 := Try.underlying39
  have hu29 := Try.underlying29
  have hu33 := Try.underlying33
  have hu36 := Try.underlying36
  have HR0_7 := Aside0.mk hr0_7
  have HC0_7 := Aside0.mk hc0_7
  clear hr0_7 hc0_7
  have HR0_10 := Aside0.mk hr0_10
  have HC0_10 := Aside0.mk hc0_10
  clear hr0_10 hc0_10
  have HR0_15 := Aside0.mk hr0_15
  have HC0_15 := Aside0.mk hc0_15
  clear hr0_15 hc0_15
  have HR0_16 := Aside0.mk hr0_16
  have HC0_16 := Aside0.mk hc0_16
  clear hr0_16 hc0_16
  have HR0_17 := Aside0.mk hr0_17
  have HC0_17 := Aside0.mk hc0_17
  clear hr0_17 hc0_17
  have HR1_7 := Aside0.mk hr1_7
  have HC1_7 := Aside0.mk hc1_7
  clear hr1_7 hc1_7
  have HR1_10 := Aside0.mk hr1_10
  have HC1_10 := Aside0.mk hc1_10
  clear hr1_10 hc1_10
  have HR1_15 := Aside0.mk hr1_15
  have HC1_15 := Aside0.mk hc1_15
  clear hr1_15 hc1_15
  have HR1_16 := Aside0.mk hr1_16
  have HC1_16 := Aside0.mk hc1_16
  clear hr1_16 hc1_16
  have HR1_17 := Aside0.mk hr1_17
  have HC1_17 := Aside0.mk hc1_17
  clear hr1_17 hc1_17
  have HB := Aside0.mk (Below.refl w.heap.size w)
  have H : ((laws_eqSetup.f a0_0 a0_1 a0_2 a0_3 a0_4 a0_5 a0_6 a1_0 a1_1 a1_2 a1_3 a1_4 a1_5 a1_6).bind fun t199 => (if t199 = true then ((laws_eqRobotS.f k l0_7 l1_7).bind fun t200 => (if t200 = true then ((laws_eqWindow.f k a0_8 a0_9 l0_10 a1_8 a1_9 l1_10).bind fun t201 => (if t201 = true then (if a0_11 = a1_11 then (if (a0_12 != a1_12) = true then (none) else ((laws_eqPlan.f k a0_13 a0_14 l0_15 a1_13 a1_14 l1_15).bind fun t202 => (if t202 = true then ((laws_eqJobS.f k l0_16 l1_16).bind fun t203 => (if t203 = true then ((laws_eqIntS.f k l0_17 l1_17).bind fun t204 => (if t204 = true then (some true) else (none))) else (none))) else (none)))) else (none)) else (none))) else (none))) else (none))) = some r := h
  clear h
  replace H := Option.bind_eq_some_iff.mp H
  obtain ⟨t199, A30, H⟩ := H
  replace H : (if t199 = true then ((laws_eqRobotS.f k l0_7 l1_7).bind fun t200 => (if t200 = true then ((laws_eqWindow.f k a0_8 a0_9 l0_10 a1_8 a1_9 l1_10).bind fun t201 => (if t201 = true then (if a0_11 = a1_11 then (if (a0_12 != a1_12) = true then (none) else ((laws_eqPlan.f k a0_13 a0_14 l0_15 a1_13 a1_14 l1_15).bind fun t202 => (if t202 = true then ((laws_eqJobS.f k l0_16 l1_16).bind fun t203 => (if t203 = true then ((laws_eqIntS.f k l0_17 l1_17).bind fun t204 => (if t204 = true then (some true) else (none))) else (none))) else (none)))) else (none)) else (none))) else (none))) else (none)) = some r := H
  have A3 := Aside0.mk A30
  clear A30
  by_cases c4 : t199 = true
  rotate_left
  · replace c4 := Bool.eq_false_iff.mpr c4
    subst c4
    have H1 : (none) = some r := by rw [if_neg (show ¬ (false = true) by decide)] at H; exact H
    clear H
    have H := H1
    clear H1
    exact absurd H (by simp)
  subst c4
  have H1 : ((laws_eqRobotS.f k l0_7 l1_7).bind fun t200 => (if t200 = true then ((laws_eqWindow.f k a0_8 a0_9 l0_10 a1_8 a1_9 l1_10).bind fun t201 => (if t201 = true then (if a0_11 = a1_11 then (if (a0_12 != a1_12) = true then (none) else ((laws_eqPlan.f k a0_13 a0_14 l0_15 a1_13 a1_14 l1_15).bind fun t202 => (if t202 = true then ((laws_eqJobS.f k l0_16 l1_16).bind fun t203 => (if t203 = true then ((laws_eqIntS.f k l0_17 l1_17).bind fun t204 => (if t204 = true then (some true) else (none))) else (none))) else (none)))) else (none)) else (none))) else (none))) = some r := by rw [if_pos rfl] at H; exact H
  clear H
  have H := H1
  clear H1
  replace H := Option.bind_eq_some_iff.mp H
  obtain ⟨t200, A50, H⟩ := H
  replace H : (if t200 = true then ((laws_eqWindow.f k a0_8 a0_9 l0_10 a1_8 a1_9 l1_10).bind fun t201 => (if t201 = true then (if a0_11 = a1_11 then (if (a0_12 != a1_12) = true then (none) else ((laws_eqPlan.f k a0_13 a0_14 l0_15 a1_13 a1_14 l1_15).bind fun t202 => (if t202 = true then ((laws_eqJobS.f k l0_16 l1_16).bind fun t203 => (if t203 = true then ((laws_eqIntS.f k l0_17 l1_17).bind fun t204 => (if t204 = true then (some true) else (none))) else (none))) else (none)))) else (none)) else (none))) else (none)) = some r := H
  have A5 := Aside0.mk A50
  clear A50
  by_cases c6 : t200 = true
  rotate_left
  · replace c6 := Bool.eq_false_iff.mpr c6
    subst c6
    have H1 : (none) = some r := by rw [if_neg (show ¬ (false = true) by decide)] at H; exact H
    clear H
    have H := H1
    clear H1
    exact absurd H (by simp)
  subst c6
  have H1 : ((laws_eqWindow.f k a0_8 a0_9 l0_10 a1_8 a1_9 l1_10).bind fun t201 => (if t201 = true then (if a0_11 = a1_11 then (if (a0_12 != a1_12) = true then (none) else ((laws_eqPlan.f k a0_13 a0_14 l0_15 a1_13 a1_14 l1_15).bind fun t202 => (if t202 = true then ((laws_eqJobS.f k l0_16 l1_16).bind fun t203 => (if t203 = true then ((laws_eqIntS.f k l0_17 l1_17).bind fun t204 => (if t204 = true then (some true) else (none))) else (none))) else (none)))) else (none)) else (none))) = some r := by rw [if_pos rfl] at H; exact H
  clear H
  have H := H1
  clear H1
  replace H := Option.bind_eq_some_iff.mp H
  obtain ⟨t201, A70, H⟩ := H
  replace H : (if t201 = true then (if a0_11 = a1_11 then (if (a0_12 != a1_12) = true then (none) else ((laws_eqPlan.f k a0_13 a0_14 l0_15 a1_13 a1_14 l1_15).bind fun t202 => (if t202 = true then ((laws_eqJobS.f k l0_16 l1_16).bind fun t203 => (if t203 = true then ((laws_eqIntS.f k l0_17 l1_17).bind fun t204 => (if t204 = true then (some true) else (none))) else (none))) else (none)))) else (none)) else (none)) = some r := H
  have A7 := Aside0.mk A70
  clear A70
  by_cases c8 : t201 = true
  rotate_left
  · replace c8 := Bool.eq_false_iff.mpr c8
    subst c8
    have H1 : (none) = some r := by rw [if_neg (show ¬ (false = true) by decide)] at H; exact H
    clear H
    have H := H1
    clear H1
    exact absurd H (by simp)
  subst c8
  have H1 : (if a0_11 = a1_11 then (if (a0_12 != a1_12) = true then (none) else ((laws_eqPlan.f k a0_13 a0_14 l0_15 a1_13 a1_14 l1_15).bind fun t202 => (if t202 = true then ((laws_eqJobS.f k l0_16 l1_16).bind fun t203 => (if t203 = true then ((laws_eqIntS.f k l0_17 l1_17).bind fun t204 => (if t204 = true then (some true) else (none))) else (none))) else (none)))) else (none)) = some r := by rw [if_pos rfl] at H; exact H
  clear H
  have H := H1
  clear H1
  by_cases c9 : a0_11 = a1_11
  rotate_left
  · rw [if_neg c9] at H
    exact absurd H (by simp)
  rw [if_pos c9] at H
  have c9b0 : (a0_11 == a1_11) = true := beq_iff_eq.mpr c9
  have c9b1 : (a0_11 != a1_11) = false := bne_eq_false_iff_eq.mpr c9
  clear c9
  by_cases c10 : (a0_12 != a1_12) = true
  · rw [if_pos c10] at H
    exact absurd H (by simp)
  rw [if_neg c10] at H
  have c10b0 : (a0_12 != a1_12) = false := by simpa using c10
  (try (have c10b1 : decide (a0_12 = a1_12) = true := by simpa using c10))
  (try (have c10b2 : (a0_12 == a1_12) = true := by simpa using c10))
  clear c10
  replace H := Option.bind_eq_some_iff.mp H
  obtain ⟨t202, A110, H⟩ := H
  replace H : (if t202 = true then ((laws_eqJobS.f k l0_16 l1_16).bind fun t203 => (if t203 = true then ((laws_eqIntS.f k l0_17 l1_17).bind fun t204 => (if t204 = true then (some true) else (none))) else (none))) else (none)) = some r := H
  have A11 := Aside0.mk A110
  clear A110
  by_cases c12 : t202 = true
  rotate_left
  · replace c12 := Bool.eq_false_iff.mpr c12
    subst c12
    have H1 : (none) = some r := by rw [if_neg (show ¬ (false = true) by decide)] at H; exact H
    clear H
    have H := H1
    clear H1
    exact absurd H (by simp)
  subst c12
  have H1 : ((laws_eqJobS.f k l0_16 l1_16).bind fun t203 => (if t203 = true then ((laws_eqIntS.f k l0_17 l1_17).bind fun t204 => (if t204 = true then (some true) else (none))) else (none))) = some r := by rw [if_pos rfl] at H; exact H
  clear H
  have H := H1
  clear H1
  replace H := Option.bind_eq_some_iff.mp H
  obtain ⟨t203, A130, H⟩ := H
  replace H : (if t203 = true then ((laws_eqIntS.f k l0_17 l1_17).bind fun t204 => (if t204 = true then (some true) else (none))) else (none)) = some r := H
  have A13 := Aside0.mk A130
  clear A130
  by_cases c14 : t203 = true
  rotate_left
  · replace c14 := Bool.eq_false_iff.mpr c14
    subst c14
    have H1 : (none) = some r := by rw [if_neg (show ¬ (false = true) by decide)] at H; exact H
    clear H
    have H := H1
    clear H1
    exact absurd H (by simp)
  subst c14
  have H1 : ((laws_eqIntS.f k l0_17 l1_17).bind fun t204 => (if t204 = true then (some true) else (none))) = some r := by rw [if_pos rfl] at H; exact H
  clear H
  have H := H1
  clear H1
  replace H := Option.bind_eq_some_iff.mp H
  obtain ⟨t204, A150, H⟩ := H
  replace H : (if t204 = true then (some true) else (none)) = some r := H
  have A15 := Aside0.mk A150
  clear A150
  by_cases c16 : t204 = true
  rotate_left
  · replace c16 := Bool.eq_false_iff.mpr c16
    subst c16
    have H1 : (none) = some r := by rw [if_neg (show ¬ (false = true) by decide)] at H; exact H
    clear H
    have H := H1
    clear H1
    exact absurd H (by simp)
  subst c16
  have H1 : (some true) = some r := by rw [if_pos rfl] at H; exact H
  clear H
  have H := H1
  clear H1
  obtain rfl := Option.some.inj H
  go_enter Try.func13, Try.ntmps13
  go_wp2_with (first | ((with_reducible refine gate_dst (N := 2) rfl ?_); refine box_event ?hg (N := 2) ?hd (cs := #[.int .i64 a0_0, .int .i64 a0_1, .string a0_2, .int .i64 a0_3, .int .i64 a0_4, .int .i64 a0_5, .int .i64 a0_6, .slice A0_7 l0_7.length c0_7, .int .i64 a0_8, .int .i64 a0_9, .slice A0_10 l0_10.length c0_10, .int .i64 a0_11, .bool a0_12, .int .i64 a0_13, .int .i64 a0_14, .slice A0_15 l0_15.length c0_15, .slice A0_16 l0_16.length c0_16, .slice A0_17 l0_17.length c0_17]) (t := 39) ?hr ?_; (case hd => rfl); (case hg => rfl); (case hr => first | (go_simp; done) | (go_simp; rfl)); intro gb197 hg w17 hbox hb; have n0_ := Aside0.mk (below_step (by repeat (first | (with_reducible first | exact HB.out | apply wa | apply wN | apply wd) | exact HB.out)) hb); have n1_ := Aside0.mk (hbox); have n2_ := Aside0.mk ((by rw [hg]; exact (below_size (by repeat (first | (with_reducible first | exact HB.out | apply wa | apply wN | apply wd) | exact HB.out))) : w.heap.size ≤ gb197)); have n3_ := n2_; clear HB; have HB := n0_; have BK197 := n1_; have GW197 := n2_; have GE197 := n3_; clear n0_ n1_ n2_ n3_; clear hb hbox hg) | ((with_reducible refine gate_dst (N := 3) rfl ?_); refine box_event ?hg (N := 3) ?hd (cs := #[.int .i64 a1_0, .int .i64 a1_1, .string a1_2, .int .i64 a1_3, .int .i64 a1_4, .int .i64 a1_5, .int .i64 a1_6, .slice A1_7 l1_7.length c1_7, .int .i64 a1_8, .int .i64 a1_9, .slice A1_10 l1_10.length c1_10, .int .i64 a1_11, .bool a1_12, .int .i64 a1_13, .int .i64 a1_14, .slice A1_15 l1_15.length c1_15, .slice A1_16 l1_16.length c1_16, .slice A1_17 l1_17.length c1_17]) (t := 39) ?hr ?_; (case hd => rfl); (case hg => rfl); (case hr => first | (go_simp; done) | (go_simp; rfl)); intro gb198 hg w18 hbox hb; have n0_ := Aside0.mk (bb (g := gb197) (by first | (with_reducible exact BK197.out) | (with_reducible exact bN BK197.out _) | (with_reducible exact bd BK197.out) | ((with_reducible repeat first | apply bN | apply bd | apply ba); exact BK197.out)) hb); have n1_ := Aside0.mk (below_step (by repeat (first | (with_reducible first | exact HB.out | apply wa | apply wN | apply wd | refine ws ?_ GE197.out) | exact HB.out)) hb); have n2_ := Aside0.mk (hbox); have n3_ := Aside0.mk ((by rw [hg]; exact (below_size (by repeat (first | (with_reducible first | exact HB.out | apply wa | apply wN | apply wd | refine ws ?_ GE197.out) | exact HB.out))) : w.heap.size ≤ gb198)); have n4_ := n3_; have n5_ := Aside0.mk ((by rw [hg]; exact Nat.ne_of_lt (blk_lt (g := gb197) (by (with_reducible repeat first | apply bN | apply bd | apply ba); exact BK197.out)) : gb197 ≠ gb198)); have n6_ := Aside0.mk ((by rw [hg]; exact Nat.ne_of_gt (blk_lt (g := gb197) (by (with_reducible repeat first | apply bN | apply bd | apply ba); exact BK197.out)) : gb198 ≠ gb197)); clear BK197; clear HB; have BK197 := n0_; have HB := n1_; have BK198 := n2_; have GW198 := n3_; have GE198 := n4_; have NB197_198 := n5_; have NB198_197 := n6_; clear n0_ n1_ n2_ n3_ n4_ n5_ n6_; clear hb hbox hg; have hnb19 := NB197_198.out; have hnc19 := NB198_197.out; have hcz20_0 : w18.cell? ⟨gb197, 0, none⟩ = some (.int .i64 a0_0) := (bc BK197.out 0).trans rfl; have hcz20_1 : w18.cell? ⟨gb197, 1, none⟩ = some (.int .i64 a0_1) := (bc BK197.out 1).trans rfl; have hcz20_2 : w18.cell? ⟨gb197, 2, none⟩ = some (.string a0_2) := (bc BK197.out 2).trans rfl; have hcz20_3 : w18.cell? ⟨gb197, 3, none⟩ = some (.int .i64 a0_3) := (bc BK197.out 3).trans rfl; have hcz20_4 : w18.cell? ⟨gb197, 4, none⟩ = some (.int .i64 a0_4) := (bc BK197.out 4).trans rfl; have hcz20_5 : w18.cell? ⟨gb197, 5, none⟩ = some (.int .i64 a0_5) := (bc BK197.out 5).trans rfl; have hcz20_6 : w18.cell? ⟨gb197, 6, none⟩ = some (.int .i64 a0_6) := (bc BK197.out 6).trans rfl; have hcz20_7 : w18.cell? ⟨gb197, 7, none⟩ = some (.slice A0_7 l0_7.length c0_7) := (bc BK197.out 7).trans rfl; have hcz20_8 : w18.cell? ⟨gb197, 8, none⟩ = some (.int .i64 a0_8) := (bc BK197.out 8).trans rfl; have hcz20_9 : w18.cell? ⟨gb197, 9, none⟩ = some (.int .i64 a0_9) := (bc BK197.out 9).trans rfl; have hcz20_10 : w18.cell? ⟨gb197, 10, none⟩ = some (.slice A0_10 l0_10.length c0_10) := (bc BK197.out 10).trans rfl; have hcz20_11 : w18.cell? ⟨gb197, 11, none⟩ = some (.int .i64 a0_11) := (bc BK197.out 11).trans rfl; have hcz20_12 : w18.cell? ⟨gb197, 12, none⟩ = some (.bool a0_12) := (bc BK197.out 12).trans rfl; have hcz20_13 : w18.cell? ⟨gb197, 13, none⟩ = some (.int .i64 a0_13) := (bc BK197.out 13).trans rfl; have hcz20_14 : w18.cell? ⟨gb197, 14, none⟩ = some (.int .i64 a0_14) := (bc BK197.out 14).trans rfl; have hcz20_15 : w18.cell? ⟨gb197, 15, none⟩ = some (.slice A0_15 l0_15.length c0_15) := (bc BK197.out 15).trans rfl; have hcz20_16 : w18.cell? ⟨gb197, 16, none⟩ = some (.slice A0_16 l0_16.length c0_16) := (bc BK197.out 16).trans rfl; have hcz20_17 : w18.cell? ⟨gb197, 17, none⟩ = some (.slice A0_17 l0_17.length c0_17) := (bc BK197.out 17).trans rfl; have hcz21_0 : w18.cell? ⟨gb198, 0, none⟩ = some (.int .i64 a1_0) := (bc BK198.out 0).trans rfl; have hcz21_1 : w18.cell? ⟨gb198, 1, none⟩ = some (.int .i64 a1_1) := (bc BK198.out 1).trans rfl; have hcz21_2 : w18.cell? ⟨gb198, 2, none⟩ = some (.string a1_2) := (bc BK198.out 2).trans rfl; have hcz21_3 : w18.cell? ⟨gb198, 3, none⟩ = some (.int .i64 a1_3) := (bc BK198.out 3).trans rfl; have hcz21_4 : w18.cell? ⟨gb198, 4, none⟩ = some (.int .i64 a1_4) := (bc BK198.out 4).trans rfl; have hcz21_5 : w18.cell? ⟨gb198, 5, none⟩ = some (.int .i64 a1_5) := (bc BK198.out 5).trans rfl; have hcz21_6 : w18.cell? ⟨gb198, 6, none⟩ = some (.int .i64 a1_6) := (bc BK198.out 6).trans rfl; have hcz21_7 : w18.cell? ⟨gb198, 7, none⟩ = some (.slice A1_7 l1_7.length c1_7) := (bc BK198.out 7).trans rfl; have hcz21_8 : w18.cell? ⟨gb198, 8, none⟩ = some (.int .i64 a1_8) := (bc BK198.out 8).trans rfl; have hcz21_9 : w18.cell? ⟨gb198, 9, none⟩ = some (.int .i64 a1_9) := (bc BK198.out 9).trans rfl; have hcz21_10 : w18.cell? ⟨gb198, 10, none⟩ = some (.slice A1_10 l1_10.length c1_10) := (bc BK198.out 10).trans rfl; have hcz21_11 : w18.cell? ⟨gb198, 11, none⟩ = some (.int .i64 a1_11) := (bc BK198.out 11).trans rfl; have hcz21_12 : w18.cell? ⟨gb198, 12, none⟩ = some (.bool a1_12) := (bc BK198.out 12).trans rfl; have hcz21_13 : w18.cell? ⟨gb198, 13, none⟩ = some (.int .i64 a1_13) := (bc BK198.out 13).trans rfl; have hcz21_14 : w18.cell? ⟨gb198, 14, none⟩ = some (.int .i64 a1_14) := (bc BK198.out 14).trans rfl; have hcz21_15 : w18.cell? ⟨gb198, 15, none⟩ = some (.slice A1_15 l1_15.length c1_15) := (bc BK198.out 15).trans rfl; have hcz21_16 : w18.cell? ⟨gb198, 16, none⟩ = some (.slice A1_16 l1_16.length c1_16) := (bc BK198.out 16).trans rfl; have hcz21_17 : w18.cell? ⟨gb198, 17, none⟩ = some (.slice A1_17 l1_17.length c1_17) := (bc BK198.out 17).trans rfl) | ((with_reducible refine gate_callee (f := 52) rfl ?_); refine goesL_ (some 9) rfl rfl Try.func52 (by kernel_rfl) rfl #[.agg #[.int .i64 a0_0, .int .i64 a0_1, .string a0_2, .int .i64 a0_3, .int .i64 a0_4, .int .i64 a0_5, .int .i64 a0_6], .agg #[.int .i64 a1_0, .int .i64 a1_1, .string a1_2, .int .i64 a1_3, .int .i64 a1_4, .int .i64 a1_5, .int .i64 a1_6]] rfl (by (try simp only [List.map_toArray, List.map_cons, List.map_nil]); first | done | rfl | (simp only [List.length_drop, List.length_take]; rfl)) ?_; (with_reducible refine (laws_eqSetup.calls a0_0 a0_1 a0_2 a0_3 a0_4 a0_5 a0_6 a1_0 a1_1 a1_2 a1_3 a1_4 a1_5 a1_6 true _ A3.out).mono ?_); rintro e w22 ⟨rfl, hb⟩; refine ⟨_, rfl, ?_⟩; have n0_ := Aside0.mk (bb (g := gb197) (by first | (with_reducible exact BK197.out) | (with_reducible exact bN BK197.out _) | (with_reducible exact bd BK197.out) | ((with_reducible repeat first | apply bN | apply bd | apply ba); exact BK197.out)) hb); have n1_ := Aside0.mk (bb (g := gb198) (by first | (with_reducible exact BK198.out) | (with_reducible exact bN BK198.out _) | (with_reducible exact bd BK198.out) | ((with_reducible repeat first | apply bN | apply bd | apply ba); exact BK198.out)) hb); have n2_ := Aside0.mk (below_step (by repeat (first | (with_reducible first | exact HB.out | apply wa | apply wN | apply wd | refine ws ?_ GE197.out | refine ws ?_ GE198.out) | exact HB.out)) hb); clear BK197; clear BK198; clear HB; have BK197 := n0_; have BK198 := n1_; have HB := n2_; clear n0_ n1_ n2_; (try clear hb); (try clear hb2); (try clear hk); (try clear hi); have hcz23_0 : w22.cell? ⟨gb197, 0, none⟩ = some (.int .i64 a0_0) := (bc BK197.out 0).trans rfl; have hcz23_1 : w22.cell? ⟨gb197, 1, none⟩ = some (.int .i64 a0_1) := (bc BK197.out 1).trans rfl; have hcz23_2 : w22.cell? ⟨gb197, 2, none⟩ = some (.string a0_2) := (bc BK197.out 2).trans rfl; have hcz23_3 : w22.cell? ⟨gb197, 3, none⟩ = some (.int .i64 a0_3) := (bc BK197.out 3).trans rfl; have hcz23_4 : w22.cell? ⟨gb197, 4, none⟩ = some (.int .i64 a0_4) := (bc BK197.out 4).trans rfl; have hcz23_5 : w22.cell? ⟨gb197, 5, none⟩ = some (.int .i64 a0_5) := (bc BK197.out 5).trans rfl; have hcz23_6 : w22.cell? ⟨gb197, 6, none⟩ = some (.int .i64 a0_6) := (bc BK197.out 6).trans rfl; have hcz23_7 : w22.cell? ⟨gb197, 7, none⟩ = some (.slice A0_7 l0_7.length c0_7) := (bc BK197.out 7).trans rfl; have hcz23_8 : w22.cell? ⟨gb197, 8, none⟩ = some (.int .i64 a0_8) := (bc BK197.out 8).trans rfl; have hcz23_9 : w22.cell? ⟨gb197, 9, none⟩ = some (.int .i64 a0_9) := (bc BK197.out 9).trans rfl; have hcz23_10 : w22.cell? ⟨gb197, 10, none⟩ = some (.slice A0_10 l0_10.length c0_10) := (bc BK197.out 10).trans rfl; have hcz23_11 : w22.cell? ⟨gb197, 11, none⟩ = some (.int .i64 a0_11) := (bc BK197.out 11).trans rfl; have hcz23_12 : w22.cell? ⟨gb197, 12, none⟩ = some (.bool a0_12) := (bc BK197.out 12).trans rfl; have hcz23_13 : w22.cell? ⟨gb197, 13, none⟩ = some (.int .i64 a0_13) := (bc BK197.out 13).trans rfl; have hcz23_14 : w22.cell? ⟨gb197, 14, none⟩ = some (.int .i64 a0_14) := (bc BK197.out 14).trans rfl; have hcz23_15 : w22.cell? ⟨gb197, 15, none⟩ = some (.slice A0_15 l0_15.length c0_15) := (bc BK197.out 15).trans rfl; have hcz23_16 : w22.cell? ⟨gb197, 16, none⟩ = some (.slice A0_16 l0_16.length c0_16) := (bc BK197.out 16).trans rfl; have hcz23_17 : w22.cell? ⟨gb197, 17, none⟩ = some (.slice A0_17 l0_17.length c0_17) := (bc BK197.out 17).trans rfl; have hcz24_0 : w22.cell? ⟨gb198, 0, none⟩ = some (.int .i64 a1_0) := (bc BK198.out 0).trans rfl; have hcz24_1 : w22.cell? ⟨gb198, 1, none⟩ = some (.int .i64 a1_1) := (bc BK198.out 1).trans rfl; have hcz24_2 : w22.cell? ⟨gb198, 2, none⟩ = some (.string a1_2) := (bc BK198.out 2).trans rfl; have hcz24_3 : w22.cell? ⟨gb198, 3, none⟩ = some (.int .i64 a1_3) := (bc BK198.out 3).trans rfl; have hcz24_4 : w22.cell? ⟨gb198, 4, none⟩ = some (.int .i64 a1_4) := (bc BK198.out 4).trans rfl; have hcz24_5 : w22.cell? ⟨gb198, 5, none⟩ = some (.int .i64 a1_5) := (bc BK198.out 5).trans rfl; have hcz24_6 : w22.cell? ⟨gb198, 6, none⟩ = some (.int .i64 a1_6) := (bc BK198.out 6).trans rfl; have hcz24_7 : w22.cell? ⟨gb198, 7, none⟩ = some (.slice A1_7 l1_7.length c1_7) := (bc BK198.out 7).trans rfl; have hcz24_8 : w22.cell? ⟨gb198, 8, none⟩ = some (.int .i64 a1_8) := (bc BK198.out 8).trans rfl; have hcz24_9 : w22.cell? ⟨gb198, 9, none⟩ = some (.int .i64 a1_9) := (bc BK198.out 9).trans rfl; have hcz24_10 : w22.cell? ⟨gb198, 10, none⟩ = some (.slice A1_10 l1_10.length c1_10) := (bc BK198.out 10).trans rfl; have hcz24_11 : w22.cell? ⟨gb198, 11, none⟩ = some (.int .i64 a1_11) := (bc BK198.out 11).trans rfl; have hcz24_12 : w22.cell? ⟨gb198, 12, none⟩ = some (.bool a1_12) := (bc BK198.out 12).trans rfl; have hcz24_13 : w22.cell? ⟨gb198, 13, none⟩ = some (.int .i64 a1_13) := (bc BK198.out 13).trans rfl; have hcz24_14 : w22.cell? ⟨gb198, 14, none⟩ = some (.int .i64 a1_14) := (bc BK198.out 14).trans rfl; have hcz24_15 : w22.cell? ⟨gb198, 15, none⟩ = some (.slice A1_15 l1_15.length c1_15) := (bc BK198.out 15).trans rfl; have hcz24_16 : w22.cell? ⟨gb198, 16, none⟩ = some (.slice A1_16 l1_16.length c1_16) := (bc BK198.out 16).trans rfl; have hcz24_17 : w22.cell? ⟨gb198, 17, none⟩ = some (.slice A1_17 l1_17.length c1_17) := (bc BK198.out 17).trans rfl) | ((with_reducible refine gate_callee (f := 53) rfl ?_); refine goesL_ (some 15) rfl rfl Try.func53 (by kernel_rfl) rfl #[.slice A0_7 l0_7.length c0_7, .slice A1_7 l1_7.length c1_7] rfl (by (try simp only [List.map_toArray, List.map_cons, List.map_nil]); first | done | rfl | (simp only [List.length_drop, List.length_take]; rfl)) ?_; (with_reducible refine (laws_eqRobotS.calls k _ _ l0_7 _ _ l1_7 true _ ?side1 ?side2 ?side3 ?side4 A5.out).mono ?_); (case side1 => repeat (first | exact (Kd.C_below HR0_7.out HB.out) | (with_reducible refine Kd.Ca ?_ _) | (with_reducible refine Kd.Cn ?_ _) | (with_reducible refine Kd.Cd ?_))); (case side2 => exact HC0_7.out); (case side3 => repeat (first | exact (Kd.C_below HR1_7.out HB.out) | (with_reducible refine Kd.Ca ?_ _) | (with_reducible refine Kd.Cn ?_ _) | (with_reducible refine Kd.Cd ?_))); (case side4 => exact HC1_7.out); rintro e w25 ⟨rfl, hb⟩; refine ⟨_, rfl, ?_⟩; have n0_ := Aside0.mk (bb (g := gb197) (by first | (with_reducible exact BK197.out) | (with_reducible exact bN BK197.out _) | (with_reducible exact bd BK197.out) | ((with_reducible repeat first | apply bN | apply bd | apply ba); exact BK197.out)) hb); have n1_ := Aside0.mk (bb (g := gb198) (by first | (with_reducible exact BK198.out) | (with_reducible exact bN BK198.out _) | (with_reducible exact bd BK198.out) | ((with_reducible repeat first | apply bN | apply bd | apply ba); exact BK198.out)) hb); have n2_ := Aside0.mk (below_step (by repeat (first | (with_reducible first | exact HB.out | apply wa | apply wN | apply wd | refine ws ?_ GE197.out | refine ws ?_ GE198.out) | exact HB.out)) hb); clear BK197; clear BK198; clear HB; have BK197 := n0_; have BK198 := n1_; have HB := n2_; clear n0_ n1_ n2_; (try clear hb); (try clear hb2); (try clear hk); (try clear hi); have hcz26_0 : w25.cell? ⟨gb197, 0, none⟩ = some (.int .i64 a0_0) := (bc BK197.out 0).trans rfl; have hcz26_1 : w25.cell? ⟨gb197, 1, none⟩ = some (.int .i64 a0_1) := (bc BK197.out 1).trans rfl; have hcz26_2 : w25.cell? ⟨gb197, 2, none⟩ = some (.string a0_2) := (bc BK197.out 2).trans rfl; have hcz26_3 : w25.cell? ⟨gb197, 3, none⟩ = some (.int .i64 a0_3) := (bc BK197.out 3).trans rfl; have hcz26_4 : w25.cell? ⟨gb197, 4, none⟩ = some (.int .i64 a0_4) := (bc BK197.out 4).trans rfl; have hcz26_5 : w25.cell? ⟨gb197, 5, none⟩ = some (.int .i64 a0_5) := (bc BK197.out 5).trans rfl; have hcz26_6 : w25.cell? ⟨gb197, 6, none⟩ = some (.int .i64 a0_6) := (bc BK197.out 6).trans rfl; have hcz26_7 : w25.cell? ⟨gb197, 7, none⟩ = some (.slice A0_7 l0_7.length c0_7) := (bc BK197.out 7).trans rfl; have hcz26_8 : w25.cell? ⟨gb197, 8, none⟩ = some (.int .i64 a0_8) := (bc BK197.out 8).trans rfl; have hcz26_9 : w25.cell? ⟨gb197, 9, none⟩ = some (.int .i64 a0_9) := (bc BK197.out 9).trans rfl; have hcz26_10 : w25.cell? ⟨gb197, 10, none⟩ = some (.slice A0_10 l0_10.length c0_10) := (bc BK197.out 10).trans rfl; have hcz26_11 : w25.cell? ⟨gb197, 11, none⟩ = some (.int .i64 a0_11) := (bc BK197.out 11).trans rfl; have hcz26_12 : w25.cell? ⟨gb197, 12, none⟩ = some (.bool a0_12) := (bc BK197.out 12).trans rfl; have hcz26_13 : w25.cell? ⟨gb197, 13, none⟩ = some (.int .i64 a0_13) := (bc BK197.out 13).trans rfl; have hcz26_14 : w25.cell? ⟨gb197, 14, none⟩ = some (.int .i64 a0_14) := (bc BK197.out 14).trans rfl; have hcz26_15 : w25.cell? ⟨gb197, 15, none⟩ = some (.slice A0_15 l0_15.length c0_15) := (bc BK197.out 15).trans rfl; have hcz26_16 : w25.cell? ⟨gb197, 16, none⟩ = some (.slice A0_16 l0_16.length c0_16) := (bc BK197.out 16).trans rfl; have hcz26_17 : w25.cell? ⟨gb197, 17, none⟩ = some (.slice A0_17 l0_17.length c0_17) := (bc BK197.out 17).trans rfl; have hcz27_0 : w25.cell? ⟨gb198, 0, none⟩ = some (.int .i64 a1_0) := (bc BK198.out 0).trans rfl; have hcz27_1 : w25.cell? ⟨gb198, 1, none⟩ = some (.int .i64 a1_1) := (bc BK198.out 1).trans rfl; have hcz27_2 : w25.cell? ⟨gb198, 2, none⟩ = some (.string a1_2) := (bc BK198.out 2).trans rfl; have hcz27_3 : w25.cell? ⟨gb198, 3, none⟩ = some (.int .i64 a1_3) := (bc BK198.out 3).trans rfl; have hcz27_4 : w25.cell? ⟨gb198, 4, none⟩ = some (.int .i64 a1_4) := (bc BK198.out 4).trans rfl; have hcz27_5 : w25.cell? ⟨gb198, 5, none⟩ = some (.int .i64 a1_5) := (bc BK198.out 5).trans rfl; have hcz27_6 : w25.cell? ⟨gb198, 6, none⟩ = some (.int .i64 a1_6) := (bc BK198.out 6).trans rfl; have hcz27_7 : w25.cell? ⟨gb198, 7, none⟩ = some (.slice A1_7 l1_7.length c1_7) := (bc BK198.out 7).trans rfl; have hcz27_8 : w25.cell? ⟨gb198, 8, none⟩ = some (.int .i64 a1_8) := (bc BK198.out 8).trans rfl; have hcz27_9 : w25.cell? ⟨gb198, 9, none⟩ = some (.int .i64 a1_9) := (bc BK198.out 9).trans rfl; have hcz27_10 : w25.cell? ⟨gb198, 10, none⟩ = some (.slice A1_10 l1_10.length c1_10) := (bc BK198.out 10).trans rfl; have hcz27_11 : w25.cell? ⟨gb198, 11, none⟩ = some (.int .i64 a1_11) := (bc BK198.out 11).trans rfl; have hcz27_12 : w25.cell? ⟨gb198, 12, none⟩ = some (.bool a1_12) := (bc BK198.out 12).trans rfl; have hcz27_13 : w25.cell? ⟨gb198, 13, none⟩ = some (.int .i64 a1_13) := (bc BK198.out 13).trans rfl; have hcz27_14 : w25.cell? ⟨gb198, 14, none⟩ = some (.int .i64 a1_14) := (bc BK198.out 14).trans rfl; have hcz27_15 : w25.cell? ⟨gb198, 15, none⟩ = some (.slice A1_15 l1_15.length c1_15) := (bc BK198.out 15).trans rfl; have hcz27_16 : w25.cell? ⟨gb198, 16, none⟩ = some (.slice A1_16 l1_16.length c1_16) := (bc BK198.out 16).trans rfl; have hcz27_17 : w25.cell? ⟨gb198, 17, none⟩ = some (.slice A1_17 l1_17.length c1_17) := (bc BK198.out 17).trans rfl) | ((with_reducible refine gate_callee (f := 54) rfl ?_); refine goesL_ (some 21) rfl rfl Try.func54 (by kernel_rfl) rfl #[.agg #[.int .i64 a0_8, .int .i64 a0_9, .slice A0_10 l0_10.length c0_10], .agg #[.int .i64 a1_8, .int .i64 a1_9, .slice A1_10 l1_10.length c1_10]] rfl (by (try simp only [List.map_toArray, List.map_cons, List.map_nil]); first | done | rfl | (simp only [List.length_drop, List.length_take]; rfl)) ?_; (with_reducible refine (laws_eqWindow.calls k a0_8 a0_9 _ _ l0_10 a1_8 a1_9 _ _ l1_10 true _ ?side1 ?side2 ?side3 ?side4 A7.out).mono ?_); (case side1 => repeat (first | exact (Kd.C_below HR0_10.out HB.out) | (with_reducible refine Kd.Ca ?_ _) | (with_reducible refine Kd.Cn ?_ _) | (with_reducible refine Kd.Cd ?_))); (case side2 => exact HC0_10.out); (case side3 => repeat (first | exact (Kd.C_below HR1_10.out HB.out) | (with_reducible refine Kd.Ca ?_ _) | (with_reducible refine Kd.Cn ?_ _) | (with_reducible refine Kd.Cd ?_))); (case side4 => exact HC1_10.out); rintro e w28 ⟨rfl, hb⟩; refine ⟨_, rfl, ?_⟩; have n0_ := Aside0.mk (bb (g := gb197) (by first | (with_reducible exact BK197.out) | (with_reducible exact bN BK197.out _) | (with_reducible exact bd BK197.out) | ((with_reducible repeat first | apply bN | apply bd | apply ba); exact BK197.out)) hb); have n1_ := Aside0.mk (bb (g := gb198) (by first | (with_reducible exact BK198.out) | (with_reducible exact bN BK198.out _) | (with_reducible exact bd BK198.out) | ((with_reducible repeat first | apply bN | apply bd | apply ba); exact BK198.out)) hb); have n2_ := Aside0.mk (below_step (by repeat (first | (with_reducible first | exact HB.out | apply wa | apply wN | apply wd | refine ws ?_ GE197.out | refine ws ?_ GE198.out) | exact HB.out)) hb); clear BK197; clear BK198; clear HB; have BK197 := n0_; have BK198 := n1_; have HB := n2_; clear n0_ n1_ n2_; (try clear hb); (try clear hb2); (try clear hk); (try clear hi); have hcz29_0 : w28.cell? ⟨gb197, 0, none⟩ = some (.int .i64 a0_0) := (bc BK197.out 0).trans rfl; have hcz29_1 : w28.cell? ⟨gb197, 1, none⟩ = some (.int .i64 a0_1) := (bc BK197.out 1).trans rfl; have hcz29_2 : w28.cell? ⟨gb197, 2, none⟩ = some (.string a0_2) := (bc BK197.out 2).trans rfl; have hcz29_3 : w28.cell? ⟨gb197, 3, none⟩ = some (.int .i64 a0_3) := (bc BK197.out 3).trans rfl; have hcz29_4 : w28.cell? ⟨gb197, 4, none⟩ = some (.int .i64 a0_4) := (bc BK197.out 4).trans rfl; have hcz29_5 : w28.cell? ⟨gb197, 5, none⟩ = some (.int .i64 a0_5) := (bc BK197.out 5).trans rfl; have hcz29_6 : w28.cell? ⟨gb197, 6, none⟩ = some (.int .i64 a0_6) := (bc BK197.out 6).trans rfl; have hcz29_7 : w28.cell? ⟨gb197, 7, none⟩ = some (.slice A0_7 l0_7.length c0_7) := (bc BK197.out 7).trans rfl; have hcz29_8 : w28.cell? ⟨gb197, 8, none⟩ = some (.int .i64 a0_8) := (bc BK197.out 8).trans rfl; have hcz29_9 : w28.cell? ⟨gb197, 9, none⟩ = some (.int .i64 a0_9) := (bc BK197.out 9).trans rfl; have hcz29_10 : w28.cell? ⟨gb197, 10, none⟩ = some (.slice A0_10 l0_10.length c0_10) := (bc BK197.out 10).trans rfl; have hcz29_11 : w28.cell? ⟨gb197, 11, none⟩ = some (.int .i64 a0_11) := (bc BK197.out 11).trans rfl; have hcz29_12 : w28.cell? ⟨gb197, 12, none⟩ = some (.bool a0_12) := (bc BK197.out 12).trans rfl; have hcz29_13 : w28.cell? ⟨gb197, 13, none⟩ = some (.int .i64 a0_13) := (bc BK197.out 13).trans rfl; have hcz29_14 : w28.cell? ⟨gb197, 14, none⟩ = some (.int .i64 a0_14) := (bc BK197.out 14).trans rfl; have hcz29_15 : w28.cell? ⟨gb197, 15, none⟩ = some (.slice A0_15 l0_15.length c0_15) := (bc BK197.out 15).trans rfl; have hcz29_16 : w28.cell? ⟨gb197, 16, none⟩ = some (.slice A0_16 l0_16.length c0_16) := (bc BK197.out 16).trans rfl; have hcz29_17 : w28.cell? ⟨gb197, 17, none⟩ = some (.slice A0_17 l0_17.length c0_17) := (bc BK197.out 17).trans rfl; have hcz30_0 : w28.cell? ⟨gb198, 0, none⟩ = some (.int .i64 a1_0) := (bc BK198.out 0).trans rfl; have hcz30_1 : w28.cell? ⟨gb198, 1, none⟩ = some (.int .i64 a1_1) := (bc BK198.out 1).trans rfl; have hcz30_2 : w28.cell? ⟨gb198, 2, none⟩ = some (.string a1_2) := (bc BK198.out 2).trans rfl; have hcz30_3 : w28.cell? ⟨gb198, 3, none⟩ = some (.int .i64 a1_3) := (bc BK198.out 3).trans rfl; have hcz30_4 : w28.cell? ⟨gb198, 4, none⟩ = some (.int .i64 a1_4) := (bc BK198.out 4).trans rfl; have hcz30_5 : w28.cell? ⟨gb198, 5, none⟩ = some (.int .i64 a1_5) := (bc BK198.out 5).trans rfl; have hcz30_6 : w28.cell? ⟨gb198, 6, none⟩ = some (.int .i64 a1_6) := (bc BK198.out 6).trans rfl; have hcz30_7 : w28.cell? ⟨gb198, 7, none⟩ = some (.slice A1_7 l1_7.length c1_7) := (bc BK198.out 7).trans rfl; have hcz30_8 : w28.cell? ⟨gb198, 8, none⟩ = some (.int .i64 a1_8) := (bc BK198.out 8).trans rfl; have hcz30_9 : w28.cell? ⟨gb198, 9, none⟩ = some (.int .i64 a1_9) := (bc BK198.out 9).trans rfl; have hcz30_10 : w28.cell? ⟨gb198, 10, none⟩ = some (.slice A1_10 l1_10.length c1_10) := (bc BK198.out 10).trans rfl; have hcz30_11 : w28.cell? ⟨gb198, 11, none⟩ = some (.int .i64 a1_11) := (bc BK198.out 11).trans rfl; have hcz30_12 : w28.cell? ⟨gb198, 12, none⟩ = some (.bool a1_12) := (bc BK198.out 12).trans rfl; have hcz30_13 : w28.cell? ⟨gb198, 13, none⟩ = some (.int .i64 a1_13) := (bc BK198.out 13).trans rfl; have hcz30_14 : w28.cell? ⟨gb198, 14, none⟩ = some (.int .i64 a1_14) := (bc BK198.out 14).trans rfl; have hcz30_15 : w28.cell? ⟨gb198, 15, none⟩ = some (.slice A1_15 l1_15.length c1_15) := (bc BK198.out 15).trans rfl; have hcz30_16 : w28.cell? ⟨gb198, 16, none⟩ = some (.slice A1_16 l1_16.length c1_16) := (bc BK198.out 16).trans rfl; have hcz30_17 : w28.cell? ⟨gb198, 17, none⟩ = some (.slice A1_17 l1_17.length c1_17) := (bc BK198.out 17).trans rfl) | ((with_reducible refine gate_callee (f := 55) rfl ?_); refine goesL_ (some 37) rfl rfl Try.func55 (by kernel_rfl) rfl #[.agg #[.int .i64 a0_13, .int .i64 a0_14, .slice A0_15 l0_15.length c0_15], .agg #[.int .i64 a1_13, .int .i64 a1_14, .slice A1_15 l1_15.length c1_15]] rfl (by (try simp only [List.map_toArray, List.map_cons, List.map_nil]); first | done | rfl | (simp only [List.length_drop, List.length_take]; rfl)) ?_; (with_reducible refine (laws_eqPlan.calls k a0_13 a0_14 _ _ l0_15 a1_13 a1_14 _ _ l1_15 true _ ?side1 ?side2 ?side3 ?side4 A11.out).mono ?_); (case side1 => repeat (first | exact (Kd.C_below HR0_15.out HB.out) | (with_reducible refine Kd.Ca ?_ _) | (with_reducible refine Kd.Cn ?_ _) | (with_reducible refine Kd.Cd ?_))); (case side2 => exact HC0_15.out); (case side3 => repeat (first | exact (Kd.C_below HR1_15.out HB.out) | (with_reducible refine Kd.Ca ?_ _) | (with_reducible refine Kd.Cn ?_ _) | (with_reducible refine Kd.Cd ?_))); (case side4 => exact HC1_15.out); rintro e w31 ⟨rfl, hb⟩; refine ⟨_, rfl, ?_⟩; have n0_ := Aside0.mk (bb (g := gb197) (by first | (with_reducible exact BK197.out) | (with_reducible exact bN BK197.out _) | (with_reducible exact bd BK197.out) | ((with_reducible repeat first | apply bN | apply bd | apply ba); exact BK197.out)) hb); have n1_ := Aside0.mk (bb (g := gb198) (by first | (with_reducible exact BK198.out) | (with_reducible exact bN BK198.out _) | (with_reducible exact bd BK198.out) | ((with_reducible repeat first | apply bN | apply bd | apply ba); exact BK198.out)) hb); have n2_ := Aside0.mk (below_step (by repeat (first | (with_reducible first | exact HB.out | apply wa | apply wN | apply wd | refine ws ?_ GE197.out | refine ws ?_ GE198.out) | exact HB.out)) hb); clear BK197; clear BK198; clear HB; have BK197 := n0_; have BK198 := n1_; have HB := n2_; clear n0_ n1_ n2_; (try clear hb); (try clear hb2); (try clear hk); (try clear hi); have hcz32_0 : w31.cell? ⟨gb197, 0, none⟩ = some (.int .i64 a0_0) := (bc BK197.out 0).trans rfl; have hcz32_1 : w31.cell? ⟨gb197, 1, none⟩ = some (.int .i64 a0_1) := (bc BK197.out 1).trans rfl; have hcz32_2 : w31.cell? ⟨gb197, 2, none⟩ = some (.string a0_2) := (bc BK197.out 2).trans rfl; have hcz32_3 : w31.cell? ⟨gb197, 3, none⟩ = some (.int .i64 a0_3) := (bc BK197.out 3).trans rfl; have hcz32_4 : w31.cell? ⟨gb197, 4, none⟩ = some (.int .i64 a0_4) := (bc BK197.out 4).trans rfl; have hcz32_5 : w31.cell? ⟨gb197, 5, none⟩ = some (.int .i64 a0_5) := (bc BK197.out 5).trans rfl; have hcz32_6 : w31.cell? ⟨gb197, 6, none⟩ = some (.int .i64 a0_6) := (bc BK197.out 6).trans rfl; have hcz32_7 : w31.cell? ⟨gb197, 7, none⟩ = some (.slice A0_7 l0_7.length c0_7) := (bc BK197.out 7).trans rfl; have hcz32_8 : w31.cell? ⟨gb197, 8, none⟩ = some (.int .i64 a0_8) := (bc BK197.out 8).trans rfl; have hcz32_9 : w31.cell? ⟨gb197, 9, none⟩ = some (.int .i64 a0_9) := (bc BK197.out 9).trans rfl; have hcz32_10 : w31.cell? ⟨gb197, 10, none⟩ = some (.slice A0_10 l0_10.length c0_10) := (bc BK197.out 10).trans rfl; have hcz32_11 : w31.cell? ⟨gb197, 11, none⟩ = some (.int .i64 a0_11) := (bc BK197.out 11).trans rfl; have hcz32_12 : w31.cell? ⟨gb197, 12, none⟩ = some (.bool a0_12) := (bc BK197.out 12).trans rfl; have hcz32_13 : w31.cell? ⟨gb197, 13, none⟩ = some (.int .i64 a0_13) := (bc BK197.out 13).trans rfl; have hcz32_14 : w31.cell? ⟨gb197, 14, none⟩ = some (.int .i64 a0_14) := (bc BK197.out 14).trans rfl; have hcz32_15 : w31.cell? ⟨gb197, 15, none⟩ = some (.slice A0_15 l0_15.length c0_15) := (bc BK197.out 15).trans rfl; have hcz32_16 : w31.cell? ⟨gb197, 16, none⟩ = some (.slice A0_16 l0_16.length c0_16) := (bc BK197.out 16).trans rfl; have hcz32_17 : w31.cell? ⟨gb197, 17, none⟩ = some (.slice A0_17 l0_17.length c0_17) := (bc BK197.out 17).trans rfl; have hcz33_0 : w31.cell? ⟨gb198, 0, none⟩ = some (.int .i64 a1_0) := (bc BK198.out 0).trans rfl; have hcz33_1 : w31.cell? ⟨gb198, 1, none⟩ = some (.int .i64 a1_1) := (bc BK198.out 1).trans rfl; have hcz33_2 : w31.cell? ⟨gb198, 2, none⟩ = some (.string a1_2) := (bc BK198.out 2).trans rfl; have hcz33_3 : w31.cell? ⟨gb198, 3, none⟩ = some (.int .i64 a1_3) := (bc BK198.out 3).trans rfl; have hcz33_4 : w31.cell? ⟨gb198, 4, none⟩ = some (.int .i64 a1_4) := (bc BK198.out 4).trans rfl; have hcz33_5 : w31.cell? ⟨gb198, 5, none⟩ = some (.int .i64 a1_5) := (bc BK198.out 5).trans rfl; have hcz33_6 : w31.cell? ⟨gb198, 6, none⟩ = some (.int .i64 a1_6) := (bc BK198.out 6).trans rfl; have hcz33_7 : w31.cell? ⟨gb198, 7, none⟩ = some (.slice A1_7 l1_7.length c1_7) := (bc BK198.out 7).trans rfl; have hcz33_8 : w31.cell? ⟨gb198, 8, none⟩ = some (.int .i64 a1_8) := (bc BK198.out 8).trans rfl; have hcz33_9 : w31.cell? ⟨gb198, 9, none⟩ = some (.int .i64 a1_9) := (bc BK198.out 9).trans rfl; have hcz33_10 : w31.cell? ⟨gb198, 10, none⟩ = some (.slice A1_10 l1_10.length c1_10) := (bc BK198.out 10).trans rfl; have hcz33_11 : w31.cell? ⟨gb198, 11, none⟩ = some (.int .i64 a1_11) := (bc BK198.out 11).trans rfl; have hcz33_12 : w31.cell? ⟨gb198, 12, none⟩ = some (.bool a1_12) := (bc BK198.out 12).trans rfl; have hcz33_13 : w31.cell? ⟨gb198, 13, none⟩ = some (.int .i64 a1_13) := (bc BK198.out 13).trans rfl; have hcz33_14 : w31.cell? ⟨gb198, 14, none⟩ = some (.int .i64 a1_14) := (bc BK198.out 14).trans rfl; have hcz33_15 : w31.cell? ⟨gb198, 15, none⟩ = some (.slice A1_15 l1_15.length c1_15) := (bc BK198.out 15).trans rfl; have hcz33_16 : w31.cell? ⟨gb198, 16, none⟩ = some (.slice A1_16 l1_16.length c1_16) := (bc BK198.out 16).trans rfl; have hcz33_17 : w31.cell? ⟨gb198, 17, none⟩ = some (.slice A1_17 l1_17.length c1_17) := (bc BK198.out 17).trans rfl) | ((with_reducible refine gate_callee (f := 56) rfl ?_); refine goesL_ (some 43) rfl rfl Try.func56 (by kernel_rfl) rfl #[.slice A0_16 l0_16.length c0_16, .slice A1_16 l1_16.length c1_16] rfl (by (try simp only [List.map_toArray, List.map_cons, List.map_nil]); first | done | rfl | (simp only [List.length_drop, List.length_take]; rfl)) ?_; (with_reducible refine (laws_eqJobS.calls k _ _ l0_16 _ _ l1_16 true _ ?side1 ?side2 ?side3 ?side4 A13.out).mono ?_); (case side1 => repeat (first | exact (Kd.C_below HR0_16.out HB.out) | (with_reducible refine Kd.Ca ?_ _) | (with_reducible refine Kd.Cn ?_ _) | (with_reducible refine Kd.Cd ?_))); (case side2 => exact HC0_16.out); (case side3 => repeat (first | exact (Kd.C_below HR1_16.out HB.out) | (with_reducible refine Kd.Ca ?_ _) | (with_reducible refine Kd.Cn ?_ _) | (with_reducible refine Kd.Cd ?_))); (case side4 => exact HC1_16.out); rintro e w34 ⟨rfl, hb⟩; refine ⟨_, rfl, ?_⟩; have n0_ := Aside0.mk (bb (g := gb197) (by first | (with_reducible exact BK197.out) | (with_reducible exact bN BK197.out _) | (with_reducible exact bd BK197.out) | ((with_reducible repeat first | apply bN | apply bd | apply ba); exact BK197.out)) hb); have n1_ := Aside0.mk (bb (g := gb198) (by first | (with_reducible exact BK198.out) | (with_reducible exact bN BK198.out _) | (with_reducible exact bd BK198.out) | ((with_reducible repeat first | apply bN | apply bd | apply ba); exact BK198.out)) hb); have n2_ := Aside0.mk (below_step (by repeat (first | (with_reducible first | exact HB.out | apply wa | apply wN | apply wd | refine ws ?_ GE197.out | refine ws ?_ GE198.out) | exact HB.out)) hb); clear BK197; clear BK198; clear HB; have BK197 := n0_; have BK198 := n1_; have HB := n2_; clear n0_ n1_ n2_; (try clear hb); (try clear hb2); (try clear hk); (try clear hi); have hcz35_0 : w34.cell? ⟨gb197, 0, none⟩ = some (.int .i64 a0_0) := (bc BK197.out 0).trans rfl; have hcz35_1 : w34.cell? ⟨gb197, 1, none⟩ = some (.int .i64 a0_1) := (bc BK197.out 1).trans rfl; have hcz35_2 : w34.cell? ⟨gb197, 2, none⟩ = some (.string a0_2) := (bc BK197.out 2).trans rfl; have hcz35_3 : w34.cell? ⟨gb197, 3, none⟩ = some (.int .i64 a0_3) := (bc BK197.out 3).trans rfl; have hcz35_4 : w34.cell? ⟨gb197, 4, none⟩ = some (.int .i64 a0_4) := (bc BK197.out 4).trans rfl; have hcz35_5 : w34.cell? ⟨gb197, 5, none⟩ = some (.int .i64 a0_5) := (bc BK197.out 5).trans rfl; have hcz35_6 : w34.cell? ⟨gb197, 6, none⟩ = some (.int .i64 a0_6) := (bc BK197.out 6).trans rfl; have hcz35_7 : w34.cell? ⟨gb197, 7, none⟩ = some (.slice A0_7 l0_7.length c0_7) := (bc BK197.out 7).trans rfl; have hcz35_8 : w34.cell? ⟨gb197, 8, none⟩ = some (.int .i64 a0_8) := (bc BK197.out 8).trans rfl; have hcz35_9 : w34.cell? ⟨gb197, 9, none⟩ = some (.int .i64 a0_9) := (bc BK197.out 9).trans rfl; have hcz35_10 : w34.cell? ⟨gb197, 10, none⟩ = some (.slice A0_10 l0_10.length c0_10) := (bc BK197.out 10).trans rfl; have hcz35_11 : w34.cell? ⟨gb197, 11, none⟩ = some (.int .i64 a0_11) := (bc BK197.out 11).trans rfl; have hcz35_12 : w34.cell? ⟨gb197, 12, none⟩ = some (.bool a0_12) := (bc BK197.out 12).trans rfl; have hcz35_13 : w34.cell? ⟨gb197, 13, none⟩ = some (.int .i64 a0_13) := (bc BK197.out 13).trans rfl; have hcz35_14 : w34.cell? ⟨gb197, 14, none⟩ = some (.int .i64 a0_14) := (bc BK197.out 14).trans rfl; have hcz35_15 : w34.cell? ⟨gb197, 15, none⟩ = some (.slice A0_15 l0_15.length c0_15) := (bc BK197.out 15).trans rfl; have hcz35_16 : w34.cell? ⟨gb197, 16, none⟩ = some (.slice A0_16 l0_16.length c0_16) := (bc BK197.out 16).trans rfl; have hcz35_17 : w34.cell? ⟨gb197, 17, none⟩ = some (.slice A0_17 l0_17.length c0_17) := (bc BK197.out 17).trans rfl; have hcz36_0 : w34.cell? ⟨gb198, 0, none⟩ = some (.int .i64 a1_0) := (bc BK198.out 0).trans rfl; have hcz36_1 : w34.cell? ⟨gb198, 1, none⟩ = some (.int .i64 a1_1) := (bc BK198.out 1).trans rfl; have hcz36_2 : w34.cell? ⟨gb198, 2, none⟩ = some (.string a1_2) := (bc BK198.out 2).trans rfl; have hcz36_3 : w34.cell? ⟨gb198, 3, none⟩ = some (.int .i64 a1_3) := (bc BK198.out 3).trans rfl; have hcz36_4 : w34.cell? ⟨gb198, 4, none⟩ = some (.int .i64 a1_4) := (bc BK198.out 4).trans rfl; have hcz36_5 : w34.cell? ⟨gb198, 5, none⟩ = some (.int .i64 a1_5) := (bc BK198.out 5).trans rfl; have hcz36_6 : w34.cell? ⟨gb198, 6, none⟩ = some (.int .i64 a1_6) := (bc BK198.out 6).trans rfl; have hcz36_7 : w34.cell? ⟨gb198, 7, none⟩ = some (.slice A1_7 l1_7.length c1_7) := (bc BK198.out 7).trans rfl; have hcz36_8 : w34.cell? ⟨gb198, 8, none⟩ = some (.int .i64 a1_8) := (bc BK198.out 8).trans rfl; have hcz36_9 : w34.cell? ⟨gb198, 9, none⟩ = some (.int .i64 a1_9) := (bc BK198.out 9).trans rfl; have hcz36_10 : w34.cell? ⟨gb198, 10, none⟩ = some (.slice A1_10 l1_10.length c1_10) := (bc BK198.out 10).trans rfl; have hcz36_11 : w34.cell? ⟨gb198, 11, none⟩ = some (.int .i64 a1_11) := (bc BK198.out 11).trans rfl; have hcz36_12 : w34.cell? ⟨gb198, 12, none⟩ = some (.bool a1_12) := (bc BK198.out 12).trans rfl; have hcz36_13 : w34.cell? ⟨gb198, 13, none⟩ = some (.int .i64 a1_13) := (bc BK198.out 13).trans rfl; have hcz36_14 : w34.cell? ⟨gb198, 14, none⟩ = some (.int .i64 a1_14) := (bc BK198.out 14).trans rfl; have hcz36_15 : w34.cell? ⟨gb198, 15, none⟩ = some (.slice A1_15 l1_15.length c1_15) := (bc BK198.out 15).trans rfl; have hcz36_16 : w34.cell? ⟨gb198, 16, none⟩ = some (.slice A1_16 l1_16.length c1_16) := (bc BK198.out 16).trans rfl; have hcz36_17 : w34.cell? ⟨gb198, 17, none⟩ = some (.slice A1_17 l1_17.length c1_17) := (bc BK198.out 17).trans rfl) | ((with_reducible refine gate_callee (f := 28) rfl ?_); refine goesL_ (some 49) rfl rfl Try.func28 (by kernel_rfl) rfl #[.slice A0_17 l0_17.length c0_17, .slice A1_17 l1_17.length c1_17] rfl (by (try simp only [List.map_toArray, List.map_cons, List.map_nil]); first | done | rfl | (simp only [List.length_drop, List.length_take]; rfl)) ?_; (with_reducible refine (laws_eqIntS.calls k _ _ l0_17 _ _ l1_17 true _ ?side1 ?side2 ?side3 ?side4 A15.out).mono ?_); (case side1 => repeat (first | exact (Kd.C_below HR0_17.out HB.out) | (with_reducible refine Kd.Ca ?_ _) | (with_reducible refine Kd.Cn ?_ _) | (with_reducible refine Kd.Cd ?_))); (case side2 => exact HC0_17.out); (case side3 => repeat (first | exact (Kd.C_below HR1_17.out HB.out) | (with_reducible refine Kd.Ca ?_ _) | (with_reducible refine Kd.Cn ?_ _) | (with_reducible refine Kd.Cd ?_))); (case side4 => exact HC1_17.out); rintro e w' ⟨rfl, ⟨nd, rfl⟩⟩; refine ⟨_, rfl, ?_⟩))
  go_ret
  exact ⟨by first | rfl | (simp [errW_none, errW_some] <;> rfl) | (simp [*, errW_none, errW_some] <;> rfl), by repeat (first | (with_reducible first | exact HB.out | apply wa | apply wN | apply wd | refine ws ?_ GE197.out | refine ws ?_ GE198.out) | exact HB.out)⟩

/-! ### laws_markIntS: function 33 -/
def laws_markIntS.l0 : Nat → List Int → Int → Int → Option (Int × List Int)
  | 0, _, _, _ => none
  | k + 1, x0, x1, x5 => if x5 < (x0.length : Int) then (if 0 ≤ x5 then (laws_markIntS.l0 k (x0.set (x5 : Int).toNat x1) (wrap64 (x1 + 1)) (wrap64 (x5 + 1))) else (none)) else (some (x1, x0))
def laws_markIntS.f (k : Nat) (l0 : List Int) (a1 : Int) : Option (Int × List Int) := laws_markIntS.l0 k l0 a1 0
theorem laws_markIntS.mono_l : ∀ k, (∀ y0 y1 y2, LeO (laws_markIntS.l0 k y0 y1 y2) (laws_markIntS.l0 (k + 1) y0 y1 y2))
  | 0 => fun _ _ _ r h => by simp [laws_markIntS.l0] at h
  | k + 1 => by
    have ih0 := laws_markIntS.mono_l k
    · intro y0 y1 y2
      unfold laws_markIntS.l0
      repeat' first
      | (with_reducible exact ih0 _ _ _)
      | (with_reducible exact LeO.refl _)
      | (with_reducible exact LeO.none _)
      | (with_reducible refine LeO.ite ?_ ?_)
      | (with_reducible refine LeO.bind ?_ (fun _ => ?_))
      | exact ih0 _ _ _
      | exact LeO.none _
      | refine LeO.ite ?_ ?_
      | refine LeO.bind ?_ (fun _ => ?_)
theorem laws_markIntS.mono : ∀ a0 a1 k, LeO (laws_markIntS.f k a0 a1) (laws_markIntS.f (k + 1) a0 a1) := by
  intro a0 a1 k
  have ih0 := laws_markIntS.mono_l k
  unfold laws_markIntS.f
  repeat' first
      | (with_reducible exact ih0 _ _ _)
      | (with_reducible exact LeO.refl _)
      | (with_reducible exact LeO.none _)
      | (with_reducible refine LeO.ite ?_ ?_)
      | (with_reducible refine LeO.bind ?_ (fun _ => ?_))
      | exact ih0 _ _ _
      | exact LeO.none _
      | refine LeO.ite ?_ ?_
      | refine LeO.bind ?_ (fun _ => ?_)
set_option maxHeartbeats 8000000 in
set_option maxRecDepth 100000 in
theorem laws_markIntS.calls (k : Nat) (P0_ : Nat → Prop) (u9000_ : Value) (l0 : List Int) (a1 : Int) (r1 : Int) (r2 : List Int) (w0 w : World) (hB : Below w0.heap.size w0 w) (ho0 : Kd.R (Kd.int .i64) 3 w w0.heap.size P0_ u9000_ l0) (h : laws_markIntS.f k l0 a1 = some (r1, r2)) :
    Calls Try.prog 33 #[u9000_, .int .i64 a1] w fun e w' => e = .returned (.int .i64 r1) ∧ Kd.R (Kd.int .i64) 3 w' w0.heap.size (fun k_ => (P0_ k_ ∨ w.heap.size ≤ k_)) u9000_ r2 ∧ Below w0.heap.size w0 w' ∧ Kept w w' (fun k_ => P0_ k_) := by
  have HO0 := Aside0.mk (show Kd.R (Kd.int .i64) 3 w w0.heap.size (fun k_ => (P0_ k_ ∨ w.heap.size ≤ k_)) u9000_ l0 from Kd.R_mono ho0 (fun k_ hk => (.inl hk)))
  have HK := Aside0.mk (Kept.refl w (fun k_ => P0_ k_))
  have HW0 := Aside0.mk hB.size
  have HB := Aside0.mk hB
  clear hB
  have H : (laws_markIntS.l0 k l0 a1 0) = some (r1, r2) := h
  clear h
  have H' := Aside0.mk H
  clear H
  go_enter Try.func33, Try.ntmps33
  go_wp2
  go_loopg [1, 5] k (fun kq v1 v5 w' => ∃ (x0_1 : List Int) (x1_1 : Int) (x5_1 : Int), v1 = .int .i64 x1_1 ∧ v5 = .int .i64 x5_1 ∧ Aside0 (laws_markIntS.l0 kq x0_1 x1_1 x5_1 = some (r1, r2)) ∧ Aside0 (kq ≤ k) ∧ Aside0 (Kd.R (Kd.int .i64) 3 w' w0.heap.size (fun k_ => (P0_ k_ ∨ w.heap.size ≤ k_)) u9000_ x0_1) ∧ Aside0 (Kept w w' (fun k_ => P0_ k_)) ∧ Aside0 (Below w0.heap.size w0 w'))
  case atStart => exact ⟨(l0), (a1), (0), (by first | rfl | (simp; done) | (simp [*]; done)), (by first | rfl | (simp; done) | (simp [*]; done)), H', ⟨Nat.le_refl _⟩, ⟨by (with_reducible repeat (first | apply Kd.Ra | apply Kd.Rn | apply Kd.Rd)); exact HO0.out⟩, ⟨by repeat (first | (with_reducible first | exact HK.out | apply Kept.alloc | apply Kept.drewN | apply Kept.drew) | exact HK.out)⟩, ⟨by repeat (first | (with_reducible first | exact HB.out | apply wa | apply wN | apply wd) | exact HB.out)⟩⟩
  case round =>
    clear H'
    try clear p2
    obtain ⟨x0_1, x1_1, x5_1, rfl, rfl, HA, HK1, HO_0, HK, HB⟩ := hrel
    cases gk with
    | zero => exact absurd HA.out (by simp [laws_markIntS.l0])
    | succ k1 =>
      have H := HA.out
      clear HA
      simp only [laws_markIntS.l0] at H
      by_cases c3 : x5_1 < (x0_1.length : Int)
      rotate_left
      · rw [if_neg c3] at H
        have c3b0 : decide (x5_1 < (x0_1.length : Int)) = false := decide_eq_false c3
        clear c3
        simp only [Option.some.injEq, Prod.mk.injEq] at H
        obtain ⟨rfl, rfl⟩ := H
        obtain ⟨Ao9, co9, eo9⟩ := Kd.R_slice HO_0.out
        subst eo9
        go_wp2
        go_ret
        exact ⟨by first | rfl | (simp [errW_none, errW_some] <;> rfl) | (simp [*, errW_none, errW_some] <;> rfl), by (with_reducible repeat (first | apply Kd.Ra | apply Kd.Rn | apply Kd.Rd)); exact HO_0.out, by repeat (first | (with_reducible first | exact HB.out | apply wa | apply wN | apply wd) | exact HB.out), by repeat (first | (with_reducible first | exact HK.out | apply Kept.alloc | apply Kept.drewN | apply Kept.drew) | exact HK.out)⟩
      rw [if_pos c3] at H
      have c3b0 : decide (x5_1 < (x0_1.length : Int)) = true := decide_eq_true c3
      clear c3
      by_cases c4 : 0 ≤ x5_1
      rotate_left
      · rw [if_neg c4] at H
        exact absurd H (by simp)
      rw [if_pos c4] at H
      have c4b0 : decide (0 ≤ x5_1) = true := decide_eq_true c4
      clear c4
      obtain ⟨y205, hy205⟩ : ∃ y_ : List Int, y_ = (x0_1.set (x5_1 : Int).toNat x1_1) := ⟨_, rfl⟩
      replace H : (laws_markIntS.l0 k1 y205 (wrap64 (x1_1 + 1)) (wrap64 (x5_1 + 1))) = some (r1, r2) := by first | (rw [hy205]; with_reducible exact H) | (have H2_ := (Option.bind_some _ _).symm.trans H; rw [hy205]; with_reducible exact H2_) | (have H2_ := (Option.bind_some _ _).symm.trans H; with_reducible exact H2_) | with_reducible exact H | (rw [hy205]; exact H) | exact H
      have Ny205 := Aside0.mk hy205
      clear hy205
      have H' := Aside0.mk H
      clear H
      obtain ⟨Ao6, co6, eo6⟩ := Kd.R_slice HO_0.out
      subst eo6
      have p5 : 0 ≤ (x5_1 : Int) := of_decide_eq_true (by first | (with_reducible assumption) | assumption)
      have q5 : (x5_1 : Int) < ((x0_1.length : Int) : Int) := of_decide_eq_true (by first | (with_reducible assumption) | assumption)
      obtain ⟨go5, co5, eo5, gb5, gl5, cl5, HG5⟩ := Kd.R_form HO_0.out (by omega)
      (first | cases eo5 | (injection eo5 with ea_ en_ ec_; (first | subst ea_ | (injection ea_ with ea_; subst ea_)); subst ec_; clear en_))
      have GB5 := Aside0.mk gb5
      have GG5 := Aside0.mk HG5
      clear gb5 gl5 HG5
      have HMgo5 := Aside0.mk (show (P0_ go5 ∨ w.heap.size ≤ go5) from (HO_0.out.1 _ rfl))
      obtain ⟨hx5_0, hf5_0⟩ := Kd.R_celln 0 HO_0.out (x5_1 : Int) p5 q5
      replace p5 := eq_true p5
      replace q5 := eq_true q5
      have HP7 := Kd.R_putg HO_0.out (x5_1 : Int) x1_1
      go_wp2_with (first | ((with_reducible refine gate_store (t := 3) (p := 15) rfl ?_); refine store_event (t := 3) (p := 15) (v := ?vo_w8) (w1 := (wr.setCell ⟨go5, (x5_1 : Int).toNat, none⟩ (.int .i64 x1_1))) ?hg ?ho ?hn ?hr ?_; (case ho => rfl); (case hg => rfl); (case hn => rfl); (case hr => first | (go_simp; done) | (go_simp; rfl)); intro w8 hw; have hg : wr.grownBy w8 (some go5) := (by rw [hw]; exact HP7.2); have hp_ : Kd.R (Kd.int .i64) 3 w8 w0.heap.size (fun k_ => (P0_ k_ ∨ w.heap.size ≤ k_)) (.slice (some ⟨go5, 0, none⟩) x0_1.length co6) y205 := (by rw [hw, Ny205.out]; exact HP7.1); clear HP7; have n0_ := Aside0.mk (hp_); have n1_ := Aside0.mk ((by rw [hw]; exact ws (HB.out) GB5.out : Below w0.heap.size w0 w8)); have n2_ := Aside0.mk (Kept.of_grown (S := (fun k_ => P0_ k_)) hg (by repeat (first | (with_reducible first | exact HK.out | apply Kept.alloc | apply Kept.drewN | apply Kept.drew) | exact HK.out)) (fun k_ e_ => (HO_0.out.1 k_ e_))); clear HO_0; clear HB; clear HK; have HO_0 := n0_; have HB := n1_; have HK := n2_; clear n0_ n1_ n2_; clear hg hw hp_))
      go_roundg k1
      case measure => have := HK1.out; omega
      case rel => exact ⟨(y205), (wrap64 (x1_1 + 1)), (wrap64 (x5_1 + 1)), (by first | rfl | (simp; done) | (simp [*]; done)), (by first | rfl | (simp; done) | (simp [*]; done)), H', ⟨by have := HK1.out; omega⟩, ⟨by (with_reducible repeat (first | apply Kd.Ra | apply Kd.Rn | apply Kd.Rd)); exact HO_0.out⟩, ⟨by repeat (first | (with_reducible first | exact HK.out | apply Kept.alloc | apply Kept.drewN | apply Kept.drew) | exact HK.out)⟩, ⟨by repeat (first | (with_reducible first | exact HB.out | apply wa | apply wN | apply wd) | exact HB.out)⟩⟩

/-! ### laws_markWindow: function 58 -/
def laws_markWindow.f (k : Nat) (a0_0 : Int) (a0_1 : Int) (l0_2 : List Int) (a1 : Int) : Option (Int × List Int) := (laws_markIntS.f k l0_2 a1).bind fun bt207 => (some (bt207.1, bt207.2))
theorem laws_markWindow.mono : ∀ a0 a1 a2 a3 k, LeO (laws_markWindow.f k a0 a1 a2 a3) (laws_markWindow.f (k + 1) a0 a1 a2 a3) := by
  intro a0 a1 a2 a3 k
  unfold laws_markWindow.f
  repeat' first
      | (with_reducible exact laws_markIntS.mono _ _ _)
      | (with_reducible exact LeO.refl _)
      | (with_reducible exact LeO.none _)
      | (with_reducible refine LeO.ite ?_ ?_)
      | (with_reducible refine LeO.bind ?_ (fun _ => ?_))
      | exact laws_markIntS.mono _ _ _
      | exact LeO.none _
      | refine LeO.ite ?_ ?_
      | refine LeO.bind ?_ (fun _ => ?_)
set_option maxHeartbeats 8000000 in
set_option maxRecDepth 100000 in
theorem laws_markWindow.calls (k : Nat) (a0_0 : Int) (a0_1 : Int) (P0_2_ : Nat → Prop) (u9000_ : Value) (l0_2 : List Int) (a1 : Int) (r1 : Int) (r2 : List Int) (w0 w : World) (hB : Below w0.heap.size w0 w) (ho0_2 : Kd.R (Kd.int .i64) 3 w w0.heap.size P0_2_ u9000_ l0_2) (h : laws_markWindow.f k a0_0 a0_1 l0_2 a1 = some (r1, r2)) :
    Calls Try.prog 58 #[.agg #[.int .i64 a0_0, .int .i64 a0_1, u9000_], .int .i64 a1] w fun e w' => e = .returned (.int .i64 r1) ∧ Kd.R (Kd.int .i64) 3 w' w0.heap.size (fun k_ => (P0_2_ k_ ∨ w.heap.size ≤ k_)) u9000_ r2 ∧ Below w0.heap.size w0 w' ∧ Kept w w' (fun k_ => P0_2_ k_) := by
  have hu33 := Try.underlying33
  have HO0_2 := Aside0.mk (show Kd.R (Kd.int .i64) 3 w w0.heap.size (fun k_ => (P0_2_ k_ ∨ w.heap.size ≤ k_)) u9000_ l0_2 from Kd.R_mono ho0_2 (fun k_ hk => (.inl hk)))
  have HK := Aside0.mk (Kept.refl w (fun k_ => P0_2_ k_))
  have HW0 := Aside0.mk hB.size
  have HB := Aside0.mk hB
  clear hB
  have H : ((laws_markIntS.f k l0_2 a1).bind fun bt207 => (some (bt207.1, bt207.2))) = some (r1, r2) := h
  clear h
  replace H := Option.bind_eq_some_iff.mp H
  obtain ⟨⟨t207, t208⟩, A30, H⟩ := H
  replace H : (some (t207, t208)) = some (r1, r2) := H
  have A3 := Aside0.mk A30
  clear A30
  simp only [Option.some.injEq, Prod.mk.injEq] at H
  obtain ⟨rfl, rfl⟩ := H
  obtain ⟨Ao4, co4, eo4⟩ := Kd.R_slice HO0_2.out
  subst eo4
  go_enter Try.func58, Try.ntmps58
  go_wp2_with (first | ((with_reducible refine gate_dst (N := 2) rfl ?_); refine box_event ?hg (N := 2) ?hd (cs := #[.int .i64 a0_0, .int .i64 a0_1, .slice Ao4 l0_2.length co4]) (t := 33) ?hr ?_; (case hd => rfl); (case hg => rfl); (case hr => first | (go_simp; done) | (go_simp; rfl)); intro gb206 hg w5 hbox hb; have n0_ := Aside0.mk (Kd.Rb (by (with_reducible repeat (first | apply Kd.Ra | apply Kd.Rn | apply Kd.Rd)); exact HO0_2.out) hb); have n1_ := Aside0.mk (Kept.below (S := (fun k_ => P0_2_ k_)) (by repeat (first | (with_reducible first | exact HK.out | apply Kept.alloc | apply Kept.drewN | apply Kept.drew) | exact HK.out)) hb); have n2_ := Aside0.mk (below_step (by repeat (first | (with_reducible first | exact HB.out | apply wa | apply wN | apply wd) | exact HB.out)) hb); have n3_ := Aside0.mk (hbox); have n4_ := Aside0.mk ((by rw [hg]; exact (by first | exact HK.out.1 | exact (show Kept w _ (fun k_ => P0_2_ k_) from by repeat (first | (with_reducible first | exact HK.out | apply Kept.alloc | apply Kept.drewN | apply Kept.drew) | exact HK.out)).1) : w.heap.size ≤ gb206)); have n5_ := Aside0.mk ((by rw [hg]; exact (below_size (by repeat (first | (with_reducible first | exact HB.out | apply wa | apply wN | apply wd) | exact HB.out))) : w0.heap.size ≤ gb206)); clear HO0_2; clear HK; clear HB; have HO0_2 := n0_; have HK := n1_; have HB := n2_; have BK206 := n3_; have GW206 := n4_; have GE206 := n5_; clear n0_ n1_ n2_ n3_ n4_ n5_; clear hb hbox hg; have hcz6_2 : w5.cell? ⟨gb206, 2, none⟩ = some (.slice Ao4 l0_2.length co4) := (bc BK206.out 2).trans rfl) | ((with_reducible refine gate_callee (f := 33) rfl ?_); refine goesL_ (some 8) rfl rfl Try.func33 (by kernel_rfl) rfl #[.slice Ao4 l0_2.length co4, .int .i64 a1] rfl (by (try simp only [List.map_toArray, List.map_cons, List.map_nil]); first | done | rfl | (simp only [List.length_drop, List.length_take]; rfl)) ?_; (with_reducible refine (laws_markIntS.calls k (fun k_ => some k_ = (.slice Ao4 l0_2.length co4 : Value).ownBlock) (.slice Ao4 l0_2.length co4) l0_2 a1 t207 t208 w0 _ ?side1 ?side2 A3.out).mono ?_); (case side1 => repeat (first | (with_reducible first | exact HB.out | apply wa | apply wN | apply wd | refine ws ?_ GE206.out) | exact HB.out)); (case side2 => exact Kd.R_tight rfl HO0_2.out); rintro e w7 ⟨rfl, hy0, hb, hkp⟩; refine ⟨_, rfl, ?_⟩; have n0_ := Aside0.mk (Kd.R_reok rfl hy0 (fun k_ e_ => HO0_2.out.1 k_ e_)); have n1_ := Aside0.mk (blk_kept (by (with_reducible repeat first | apply bN | apply bd | apply ba); exact BK206.out) hkp (fun hs_ => (fun e_ => (Kd.R_ne HO0_2.out BK206.out (by decide)) e_) hs_)); have n2_ := Aside0.mk (Kept.then_ (S := (fun k_ => P0_2_ k_)) (by repeat (first | (with_reducible first | exact HK.out | apply Kept.alloc | apply Kept.drewN | apply Kept.drew | refine Kept.setCell ?_ (.inr GW206.out) _) | exact HK.out)) hkp (fun k_ hs_ => (fun e_ => (HO0_2.out.1 k_ e_.symm)) hs_)); have n3_ := Aside0.mk (hb); clear HO0_2; clear BK206; clear HK; clear HB; have HO0_2 := n0_; have BK206 := n1_; have HK := n2_; have HB := n3_; clear n0_ n1_ n2_ n3_; (try clear hb); (try clear hkp); (try clear hy0)))
  go_ret
  exact ⟨by first | rfl | (simp [errW_none, errW_some] <;> rfl) | (simp [*, errW_none, errW_some] <;> rfl), by (with_reducible repeat (first | apply Kd.Ra | apply Kd.Rn | apply Kd.Rd)); exact HO0_2.out, by repeat (first | (with_reducible first | exact HB.out | apply wa | apply wN | apply wd | refine ws ?_ GE206.out) | exact HB.out), by repeat (first | (with_reducible first | exact HK.out | apply Kept.alloc | apply Kept.drewN | apply Kept.drew | refine Kept.setCell ?_ (.inr GW206.out) _) | exact HK.out)⟩

/-! ### laws_markYard: function 14 -/
def laws_markYard.f (k : Nat) (a0_0 : Int) (a0_1 : Int) (a0_2 : ByteArray) (a0_3 : Int) (a0_4 : Int) (a0_5 : Int) (a0_6 : Int) (l0_7 : List S84) (a0_8 : Int) (a0_9 : Int) (l0_10 : List Int) (a0_11 : Int) (a0_12 : Bool) (a0_13 : Int) (a0_14 : Int) (l0_15 : List S143) (l0_16 : List S141) (l0_17 : List Int) (a1 : Int) : Option (Int × List Int) :=
  if l0_7.length = 0 ∧ l0_15.length = 0 ∧ l0_16.length = 0 ∧ l0_17.length = 0 then laws_markWindow.f k a0_8 a0_9 l0_10 a1 else none
theorem laws_markYard.mono : ∀ a0 a1 a2 a3 a4 a5 a6 a7 a8 a9 a10 a11 a12 a13 a14 a15 a16 a17 a18 k, LeO (laws_markYard.f k a0 a1 a2 a3 a4 a5 a6 a7 a8 a9 a10 a11 a12 a13 a14 a15 a16 a17 a18) (laws_markYard.f (k + 1) a0 a1 a2 a3 a4 a5 a6 a7 a8 a9 a10 a11 a12 a13 a14 a15 a16 a17 a18) := by
  intros
  exact LeO.ite (laws_markWindow.mono _ _ _ _ _) (LeO.refl _)
theorem laws_markYard.robots0 (A : Option Addr) (c : Nat) (v : Int) (w : World) : Calls Try.prog 57 #[.slice A 0 c, .int .i64 v] w fun e w' => e = .returned (.int .i64 v) ∧ w = w' := by
  go_enter Try.func57, Try.ntmps57
  go_wp2
  refine wp_loop_rounds 1 ?_
  rw [rounds_succ]
  go_wp2
  go_ret
  exact ⟨rfl, rfl⟩
theorem laws_markYard.ways0 (A : Option Addr) (c : Nat) (v : Int) (w : World) : Calls Try.prog 112 #[.slice A 0 c, .int .i64 v] w fun e w' => e = .returned (.int .i64 v) ∧ w = w' := by
  go_enter Try.func112, Try.ntmps112
  go_wp2
  refine wp_loop_rounds 1 ?_
  rw [rounds_succ]
  go_wp2
  go_ret
  exact ⟨rfl, rfl⟩
theorem laws_markYard.jobs0 (A : Option Addr) (c : Nat) (v : Int) (w : World) : Calls Try.prog 60 #[.slice A 0 c, .int .i64 v] w fun e w' => e = .returned (.int .i64 v) ∧ w = w' := by
  go_enter Try.func60, Try.ntmps60
  go_wp2
  refine wp_loop_rounds 1 ?_
  rw [rounds_succ]
  go_wp2
  go_ret
  exact ⟨rfl, rfl⟩
theorem laws_markYard.ints0 (A : Option Addr) (c : Nat) (v : Int) (w : World) : Calls Try.prog 33 #[.slice A 0 c, .int .i64 v] w fun e w' => e = .returned (.int .i64 v) ∧ w = w' := by
  go_enter Try.func33, Try.ntmps33
  go_wp2
  refine wp_loop_rounds 1 ?_
  rw [rounds_succ]
  go_wp2
  go_ret
  exact ⟨rfl, rfl⟩
theorem laws_markYard.plan0 (a b : Int) (A : Option Addr) (c : Nat) (v : Int) (w : World) : Calls Try.prog 59 #[.agg #[.int .i64 a, .int .i64 b, .slice A 0 c], .int .i64 v] w fun e w' => e = .returned (.int .i64 v) ∧ Below w.heap.size w w' := by
  have hu := Try.underlying36
  go_enter Try.func59, Try.ntmps59
  go_wp2_with (go_at_call 112; refine (laws_markYard.ways0 _ _ _ _).mono ?_; rintro e w2 ⟨rfl, rfl⟩)
  go_ret
  exact ⟨rfl, wa (Below.refl _ _) _⟩
set_option maxHeartbeats 4000000 in
set_option maxRecDepth 100000 in
theorem laws_markYard.calls (k : Nat) (a0_0 : Int) (a0_1 : Int) (a0_2 : ByteArray) (a0_3 : Int) (a0_4 : Int) (a0_5 : Int) (a0_6 : Int) (A0_7 : Option Addr) (c0_7 : Nat) (l0_7 : List S84) (a0_8 : Int) (a0_9 : Int) (P0_10_ : Nat → Prop) (u9000_ : Value) (l0_10 : List Int) (a0_11 : Int) (a0_12 : Bool) (a0_13 : Int) (a0_14 : Int) (A0_15 : Option Addr) (c0_15 : Nat) (l0_15 : List S143) (A0_16 : Option Addr) (c0_16 : Nat) (l0_16 : List S141) (A0_17 : Option Addr) (c0_17 : Nat) (l0_17 : List Int) (a1 : Int) (r1 : Int) (r2 : List Int) (w0 w : World) (hB : Below w0.heap.size w0 w)
    (hr0_7 : ∀ W', Kept w W' (fun k_ => P0_10_ k_) → Kd.C k84 W' A0_7 l0_7.length l0_7) (hc0_7 : l0_7.length ≤ c0_7)
    (ho0_10 : Kd.R (Kd.int .i64) 3 w w0.heap.size P0_10_ u9000_ l0_10)
    (hr0_15 : ∀ W', Kept w W' (fun k_ => P0_10_ k_) → Kd.C k143 W' A0_15 l0_15.length l0_15) (hc0_15 : l0_15.length ≤ c0_15)
    (hr0_16 : ∀ W', Kept w W' (fun k_ => P0_10_ k_) → Kd.C k141 W' A0_16 l0_16.length l0_16) (hc0_16 : l0_16.length ≤ c0_16)
    (hr0_17 : ∀ W', Kept w W' (fun k_ => P0_10_ k_) → Kd.C (Kd.int .i64) W' A0_17 l0_17.length l0_17) (hc0_17 : l0_17.length ≤ c0_17)
    (h : laws_markYard.f k a0_0 a0_1 a0_2 a0_3 a0_4 a0_5 a0_6 l0_7 a0_8 a0_9 l0_10 a0_11 a0_12 a0_13 a0_14 l0_15 l0_16 l0_17 a1 = some (r1, r2)) :
    Calls Try.prog 14 #[.agg #[.int .i64 a0_0, .int .i64 a0_1, .string a0_2, .int .i64 a0_3, .int .i64 a0_4, .int .i64 a0_5, .int .i64 a0_6, .slice A0_7 l0_7.length c0_7, .int .i64 a0_8, .int .i64 a0_9, u9000_, .int .i64 a0_11, .bool a0_12, .int .i64 a0_13, .int .i64 a0_14, .slice A0_15 l0_15.length c0_15, .slice A0_16 l0_16.length c0_16, .slice A0_17 l0_17.length c0_17], .int .i64 a1] w fun e w' => e = .returned (.int .i64 r1) ∧ Kd.R (Kd.int .i64) 3 w' w0.heap.size (fun k_ => (P0_10_ k_ ∨ w.heap.size ≤ k_)) u9000_ r2 ∧ Below w0.heap.size w0 w' ∧ Kept w w' (fun k_ => P0_10_ k_) := by
  unfold laws_markYard.f at h
  by_cases hz : l0_7.length = 0 ∧ l0_15.length = 0 ∧ l0_16.length = 0 ∧ l0_17.length = 0
  rotate_left
  · rw [if_neg hz] at h
    exact absurd h (by simp)
  rw [if_pos hz] at h
  obtain ⟨z7, z15, z16, z17⟩ := hz
  rw [z7, z15, z16, z17]
  clear hr0_7 hr0_15 hr0_16 hr0_17 hc0_7 hc0_15 hc0_16 hc0_17 z7 z15 z16 z17
  have hu := Try.underlying39
  obtain ⟨A10, c10, rfl⟩ := Kd.R_slice ho0_10
  have N2 : Aside0 (∀ w1, Below w.heap.size w w1 → Calls Try.prog 58 #[.agg #[.int .i64 a0_8, .int .i64 a0_9, .slice A10 l0_10.length c10], .int .i64 a1] w1 fun e w3 => e = .returned (.int .i64 r1) ∧ Kd.R (Kd.int .i64) 3 w3 w0.heap.size (fun k_ => (P0_10_ k_ ∨ w.heap.size ≤ k_)) (.slice A10 l0_10.length c10) r2 ∧ Below w0.heap.size w0 w3 ∧ Kept w w3 (fun k_ => P0_10_ k_) ∧ ∀ g o, w.heap.size ≤ g → w1.heap[g]? = some o → w3.heap[g]? = some o) := ⟨fun w1 hb =>
    (laws_markWindow.calls k a0_8 a0_9 (fun k_ => some k_ = (Value.slice A10 l0_10.length c10).ownBlock ∧ P0_10_ k_) _ l0_10 a1 r1 r2 w0 w1 (below_then hB hB.size hb) (Kd.R_tight2 rfl (Kd.Rb ho0_10 hb)) h).mono fun e w3 ⟨e1, hr, b, kp⟩ => ⟨e1, Kd.R_mono hr (fun k_ hk => hk.imp (fun h => h.2) (fun h => Nat.le_trans hb.size h)), b, Kept.then_ (Kept.of_below hb _) kp (fun _ h => .inl h.2), fun g o hg ho => blk_kept ho kp (fun hs => by have := Kd.R_lt ho0_10 g hs.1.symm; omega)⟩⟩
  clear ho0_10 h hB
  generalize l0_10.length = n10 at *
  go_enter Try.func14, Try.ntmps14
  go_wp2_with (first
    | ((with_reducible refine gate_dst (N := 2) rfl ?_); refine box_event ?hg (N := 2) ?hd (cs := #[.int .i64 a0_0, .int .i64 a0_1, .string a0_2, .int .i64 a0_3, .int .i64 a0_4, .int .i64 a0_5, .int .i64 a0_6, .slice A0_7 0 c0_7, .int .i64 a0_8, .int .i64 a0_9, .slice A10 n10 c10, .int .i64 a0_11, .bool a0_12, .int .i64 a0_13, .int .i64 a0_14, .slice A0_15 0 c0_15, .slice A0_16 0 c0_16, .slice A0_17 0 c0_17]) (t := 39) ?hr ?_; (case hd => rfl); (case hg => rfl); (case hr => first | (go_simp; done) | (go_simp; rfl)); intro g hg w1 hbox hb1; have HB1 := Aside0.mk hb1; have BK1 := Aside0.mk hbox; have GE : Aside0 (w.heap.size ≤ g) := ⟨Nat.le_of_eq hg.symm⟩; clear hb1 hbox hg; have hz7 : w1.cell? ⟨g, 7, none⟩ = some (.slice A0_7 0 c0_7) := (bc BK1.out 7).trans rfl; have hy8 : w1.cell? ⟨g, 8, none⟩ = some (.int .i64 a0_8) := (bc BK1.out 8).trans rfl; have hy9 : w1.cell? ⟨g, 9, none⟩ = some (.int .i64 a0_9) := (bc BK1.out 9).trans rfl; have hy10 : w1.cell? ⟨g, 10, none⟩ = some (.slice A10 n10 c10) := (bc BK1.out 10).trans rfl)
    | (go_at_call 57; refine (laws_markYard.robots0 _ _ _ _).mono ?_; rintro e w2 ⟨rfl, rfl⟩)
    | (go_at_call 58; refine (N2.out _ HB1.out).mono ?_; rintro e w3 ⟨rfl, hr3, hb3, hk3, hj3⟩; have HR3 := Aside0.mk hr3; have HB3 := Aside0.mk hb3; have HK3 := Aside0.mk hk3; have BK3 := Aside0.mk (hj3 _ _ GE.out BK1.out); clear hr3 hb3 hk3 hj3 hy8 hy9 hy10 hz7; have hx13 : w3.cell? ⟨g, 13, none⟩ = some (.int .i64 a0_13) := (bc BK3.out 13).trans rfl; have hx14 : w3.cell? ⟨g, 14, none⟩ = some (.int .i64 a0_14) := (bc BK3.out 14).trans rfl; have hx15 : w3.cell? ⟨g, 15, none⟩ = some (.slice A0_15 0 c0_15) := (bc BK3.out 15).trans rfl)
    | (go_at_call 59; refine (laws_markYard.plan0 _ _ _ _ _ _).mono ?_; rintro e w4 ⟨rfl, hb4⟩; have HB4 := Aside0.mk hb4; have BK4 := Aside0.mk (bb BK3.out hb4); clear hb4 hx13 hx14 hx15; have hz16 : w4.cell? ⟨g, 16, none⟩ = some (.slice A0_16 0 c0_16) := (bc BK4.out 16).trans rfl; have hz17 : w4.cell? ⟨g, 17, none⟩ = some (.slice A0_17 0 c0_17) := (bc BK4.out 17).trans rfl)
    | (go_at_call 60; refine (laws_markYard.jobs0 _ _ _ _).mono ?_; rintro e w5 ⟨rfl, rfl⟩)
    | (go_at_call 33; refine (laws_markYard.ints0 _ _ _ _).mono ?_; rintro e w6 ⟨rfl, rfl⟩))
  go_ret
  exact ⟨rfl, Kd.Rb HR3.out HB4.out, below_step HB3.out HB4.out, Kept.below HK3.out HB4.out⟩

end Go.Proofs.Ytfinjkjnoobbjaa.MFnExactYardNew
