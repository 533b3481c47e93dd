/- Made by a program of this session (out of the kit's print, with hand-made contracts): what each Go function that the law reaches computes, and that the machine's call does so. -/
import Derived.Test.YtfinjkjnoobbjaaMFnExactSafeYardx0
import Derived.Test.YtfinjkjnoobbjaaMFnExactSafeYardx1
import Derived.Test.YtfinjkjnoobbjaaMFnExactSafeYardx2
import Derived.Test.YtfinjkjnoobbjaaMFnExactSafeYardx3
import Derived.Test.YtfinjkjnoobbjaaMFnExactSafeYardx4
namespace Go.Proofs.Ytfinjkjnoobbjaa.MFnExactSafeYard
open Go.RowKit Go.Proofs.YtfinjkjnoobbjaaW.PrintWords Go.Proofs.YtfinjkjnoobbjaaW.PrintLast Go.Proofs.YtfinjkjnoobbjaaW.PrintMore
attribute [local go_sem] max2_int min2_int max_two min_two max_three min_three max_four min_four   -- for this text's walks alone
set_option linter.unusedVariables false
set_option linter.unusedSimpArgs false

/-! ### laws_eqYard: function 13 -/
def laws_eqYard.f (k : Nat) (a0_0 : Int) (a0_1 : Int) (a0_2 : ByteArray) (a0_3 : Int) (a0_4 : Int) (a0_5 : Int) (a0_6 : Int) (l0_7 : List (S84)) (a0_8 : Int) (a0_9 : Int) (l0_10 : List Int) (a0_11 : Int) (a0_12 : Bool) (a0_13 : Int) (a0_14 : Int) (l0_15 : List (S143)) (l0_16 : List (S141)) (l0_17 : List Int) (a1_0 : Int) (a1_1 : Int) (a1_2 : ByteArray) (a1_3 : Int) (a1_4 : Int) (a1_5 : Int) (a1_6 : Int) (l1_7 : List (S84)) (a1_8 : Int) (a1_9 : Int) (l1_10 : List Int) (a1_11 : Int) (a1_12 : Bool) (a1_13 : Int) (a1_14 : Int) (l1_15 : List (S143)) (l1_16 : List (S141)) (l1_17 : List Int) : Option (Bool) := (laws_eqSetup.f a0_0 a0_1 a0_2 a0_3 a0_4 a0_5 a0_6 a1_0 a1_1 a1_2 a1_3 a1_4 a1_5 a1_6).bind fun t132 => (if t132 = true then ((laws_eqRobotS.f k l0_7 l1_7).bind fun t133 => (if t133 = true then ((laws_eqWindow.f k a0_8 a0_9 l0_10 a1_8 a1_9 l1_10).bind fun t134 => (if t134 = true then (if a0_11 = a1_11 then (if (a0_12 != a1_12) = true then (none) else ((laws_eqPlan.f k a0_13 a0_14 l0_15 a1_13 a1_14 l1_15).bind fun t135 => (if t135 = true then ((laws_eqJobS.f k l0_16 l1_16).bind fun t136 => (if t136 = true then ((laws_eqIntS.f k l0_17 l1_17).bind fun t137 => (if t137 = true then (some true) else (none))) else (none))) else (none)))) else (none)) else (none))) else (none))) else (none))
theorem laws_eqYard.mono : ∀ a0 a1 a2 a3 a4 a5 a6 a7 a8 a9 a10 a11 a12 a13 a14 a15 a16 a17 a18 a19 a20 a21 a22 a23 a24 a25 a26 a27 a28 a29 a30 a31 a32 a33 a34 a35 k, LeO (laws_eqYard.f k a0 a1 a2 a3 a4 a5 a6 a7 a8 a9 a10 a11 a12 a13 a14 a15 a16 a17 a18 a19 a20 a21 a22 a23 a24 a25 a26 a27 a28 a29 a30 a31 a32 a33 a34 a35) (laws_eqYard.f (k + 1) a0 a1 a2 a3 a4 a5 a6 a7 a8 a9 a10 a11 a12 a13 a14 a15 a16 a17 a18 a19 a20 a21 a22 a23 a24 a25 a26 a27 a28 a29 a30 a31 a32 a33 a34 a35) := by
  intro a0 a1 a2 a3 a4 a5 a6 a7 a8 a9 a10 a11 a12 a13 a14 a15 a16 a17 a18 a19 a20 a21 a22 a23 a24 a25 a26 a27 a28 a29 a30 a31 a32 a33 a34 a35 k
  unfold laws_eqYard.f
  repeat' first
      | (with_reducible exact laws_eqIntS.mono _ _ _)
      | (with_reducible exact laws_eqJobS.mono _ _ _)
      | (with_reducible exact laws_eqPlan.mono _ _ _ _ _ _ _)
      | (with_reducible exact laws_eqRobotS.mono _ _ _)
      | (with_reducible exact laws_eqWindow.mono _ _ _ _ _ _ _)
      | (with_reducible exact LeO.refl _)
      | (with_reducible exact LeO.none _)
      | (with_reducible refine LeO.ite ?_ ?_)
      | (with_reducible refine LeO.bind ?_ (fun _ => ?_))
      | exact laws_eqIntS.mono _ _ _
      | exact laws_eqJobS.mono _ _ _
      | exact laws_eqPlan.mono _ _ _ _ _ _ _
      | exact laws_eqRobotS.mono _ _ _
      | exact laws_eqWindow.mono _ _ _ _ _ _ _
      | exact LeO.none _
      | refine LeO.ite ?_ ?_
      | refine LeO.bind ?_ (fun _ => ?_)
set_option maxHeartbeats 8000000 in
set_option maxRecDepth 100000 in
theorem laws_eqYard.calls (k : Nat) (a0_0 : Int) (a0_1 : Int) (a0_2 : ByteArray) (a0_3 : Int) (a0_4 : Int) (a0_5 : Int) (a0_6 : Int) (A0_7 : Option Addr) (c0_7 : Nat) (l0_7 : List (S84)) (a0_8 : Int) (a0_9 : Int) (A0_10 : Option Addr) (c0_10 : Nat) (l0_10 : List Int) (a0_11 : Int) (a0_12 : Bool) (a0_13 : Int) (a0_14 : Int) (A0_15 : Option Addr) (c0_15 : Nat) (l0_15 : List (S143)) (A0_16 : Option Addr) (c0_16 : Nat) (l0_16 : List (S141)) (A0_17 : Option Addr) (c0_17 : Nat) (l0_17 : List Int) (a1_0 : Int) (a1_1 : Int) (a1_2 : ByteArray) (a1_3 : Int) (a1_4 : Int) (a1_5 : Int) (a1_6 : Int) (A1_7 : Option Addr) (c1_7 : Nat) (l1_7 : List (S84)) (a1_8 : Int) (a1_9 : Int) (A1_10 : Option Addr) (c1_10 : Nat) (l1_10 : List Int) (a1_11 : Int) (a1_12 : Bool) (a1_13 : Int) (a1_14 : Int) (A1_15 : Option Addr) (c1_15 : Nat) (l1_15 : List (S143)) (A1_16 : Option Addr) (c1_16 : Nat) (l1_16 : List (S141)) (A1_17 : Option Addr) (c1_17 : Nat) (l1_17 : List Int) (r : Bool) (w : World) (hr0_7 : Kd.C k84 w A0_7 l0_7.length l0_7) (hc0_7 : l0_7.length ≤ c0_7) (hr0_10 : Kd.C (Kd.int .i64) w A0_10 l0_10.length l0_10) (hc0_10 : l0_10.length ≤ c0_10) (hr0_15 : Kd.C k143 w A0_15 l0_15.length l0_15) (hc0_15 : l0_15.length ≤ c0_15) (hr0_16 : Kd.C k141 w A0_16 l0_16.length l0_16) (hc0_16 : l0_16.length ≤ c0_16) (hr0_17 : Kd.C (Kd.int .i64) w A0_17 l0_17.length l0_17) (hc0_17 : l0_17.length ≤ c0_17) (hr1_7 : Kd.C k84 w A1_7 l1_7.length l1_7) (hc1_7 : l1_7.length ≤ c1_7) (hr1_10 : Kd.C (Kd.int .i64) w A1_10 l1_10.length l1_10) (hc1_10 : l1_10.length ≤ c1_10) (hr1_15 : Kd.C k143 w A1_15 l1_15.length l1_15) (hc1_15 : l1_15.length ≤ c1_15) (hr1_16 : Kd.C k141 w A1_16 l1_16.length l1_16) (hc1_16 : l1_16.length ≤ c1_16) (hr1_17 : Kd.C (Kd.int .i64) w A1_17 l1_17.length l1_17) (hc1_17 : l1_17.length ≤ c1_17) (h : laws_eqYard.f k a0_0 a0_1 a0_2 a0_3 a0_4 a0_5 a0_6 l0_7 a0_8 a0_9 l0_10 a0_11 a0_12 a0_13 a0_14 l0_15 l0_16 l0_17 a1_0 a1_1 a1_2 a1_3 a1_4 a1_5 a1_6 l1_7 a1_8 a1_9 l1_10 a1_11 a1_12 a1_13 a1_14 l1_15 l1_16 l1_17 = some r) :
    Calls Try.prog 13 #[.agg #[.int .i64 a0_0, .int .i64 a0_1, .string a0_2, .int .i64 a0_3, .int .i64 a0_4, .int .i64 a0_5, .int .i64 a0_6, .slice A0_7 l0_7.length c0_7, .int .i64 a0_8, .int .i64 a0_9, .slice A0_10 l0_10.length c0_10, .int .i64 a0_11, .bool a0_12, .int .i64 a0_13, .int .i64 a0_14, .slice A0_15 l0_15.length c0_15, .slice A0_16 l0_16.length c0_16, .slice A0_17 l0_17.length c0_17], .agg #[.int .i64 a1_0, .int .i64 a1_1, .string a1_2, .int .i64 a1_3, .int .i64 a1_4, .int .i64 a1_5, .int .i64 a1_6, .slice A1_7 l1_7.length c1_7, .int .i64 a1_8, .int .i64 a1_9, .slice A1_10 l1_10.length c1_10, .int .i64 a1_11, .bool a1_12, .int .i64 a1_13, .int .i64 a1_14, .slice A1_15 l1_15.length c1_15, .slice A1_16 l1_16.length c1_16, .slice A1_17 l1_17.length c1_17]] w fun e w' => e = .returned (.bool r) ∧ Below w.heap.size w w' := by
  have hu39 := Try.underlying39
  have hu29 := Try.underlying29
  have hu33 := Try.underlying33
  have hu36 := Try.underlying36
  have HR0_7 := Aside0.mk hr0_7
  have HC0_7 := Aside0.mk hc0_7
  clear hr0_7 hc0_7
  have HR0_10 := Aside0.mk hr0_10
  have HC0_10 := Aside0.mk hc0_10
  clear hr0_10 hc0_10
  have HR0_15 := Aside0.mk hr0_15
  have HC0_15 := Aside0.mk hc0_15
  clear hr0_15 hc0_15
  have HR0_16 := Aside0.mk hr0_16
  have HC0_16 := Aside0.mk hc0_16
  clear hr0_16 hc0_16
  have HR0_17 := Aside0.mk hr0_17
  have HC0_17 := Aside0.mk hc0_17
  clear hr0_17 hc0_17
  have HR1_7 := Aside0.mk hr1_7
  have HC1_7 := Aside0.mk hc1_7
  clear hr1_7 hc1_7
  have HR1_10 := Aside0.mk hr1_10
  have HC1_10 := Aside0.mk hc1_10
  clear hr1_10 hc1_10
  have HR1_15 := Aside0.mk hr1_15
  have HC1_15 := Aside0.mk hc1_15
  clear hr1_15 hc1_15
  have HR1_16 := Aside0.mk hr1_16
  have HC1_16 := Aside0.mk hc1_16
  clear hr1_16 hc1_16
  have HR1_17 := Aside0.mk hr1_17
  have HC1_17 := Aside0.mk hc1_17
  clear hr1_17 hc1_17
  have HB := Aside0.mk (Below.refl w.heap.size w)
  have H : ((laws_eqSetup.f a0_0 a0_1 a0_2 a0_3 a0_4 a0_5 a0_6 a1_0 a1_1 a1_2 a1_3 a1_4 a1_5 a1_6).bind fun t132 => (if t132 = true then ((laws_eqRobotS.f k l0_7 l1_7).bind fun t133 => (if t133 = true then ((laws_eqWindow.f k a0_8 a0_9 l0_10 a1_8 a1_9 l1_10).bind fun t134 => (if t134 = true then (if a0_11 = a1_11 then (if (a0_12 != a1_12) = true then (none) else ((laws_eqPlan.f k a0_13 a0_14 l0_15 a1_13 a1_14 l1_15).bind fun t135 => (if t135 = true then ((laws_eqJobS.f k l0_16 l1_16).bind fun t136 => (if t136 = true then ((laws_eqIntS.f k l0_17 l1_17).bind fun t137 => (if t137 = true then (some true) else (none))) else (none))) else (none)))) else (none)) else (none))) else (none))) else (none))) = some r := h
  clear h
  replace H := Option.bind_eq_some_iff.mp H
  obtain ⟨t132, A30, H⟩ := H
  try dsimp only at H
  have A3 := Aside0.mk A30
  clear A30
  by_cases c4 : t132 = true
  rotate_left
  · replace c4 := Bool.eq_false_iff.mpr c4
    subst c4
    rw [if_neg (show ¬ (false = true) by decide)] at H
    exact absurd H (by simp)
  subst c4
  rw [if_pos rfl] at H
  replace H := Option.bind_eq_some_iff.mp H
  obtain ⟨t133, A50, H⟩ := H
  try dsimp only at H
  have A5 := Aside0.mk A50
  clear A50
  by_cases c6 : t133 = true
  rotate_left
  · replace c6 := Bool.eq_false_iff.mpr c6
    subst c6
    rw [if_neg (show ¬ (false = true) by decide)] at H
    exact absurd H (by simp)
  subst c6
  rw [if_pos rfl] at H
  replace H := Option.bind_eq_some_iff.mp H
  obtain ⟨t134, A70, H⟩ := H
  try dsimp only at H
  have A7 := Aside0.mk A70
  clear A70
  by_cases c8 : t134 = true
  rotate_left
  · replace c8 := Bool.eq_false_iff.mpr c8
    subst c8
    rw [if_neg (show ¬ (false = true) by decide)] at H
    exact absurd H (by simp)
  subst c8
  rw [if_pos rfl] at H
  by_cases c9 : a0_11 = a1_11
  rotate_left
  · rw [if_neg c9] at H
    exact absurd H (by simp)
  rw [if_pos c9] at H
  have c9b0 : (a0_11 == a1_11) = true := beq_iff_eq.mpr c9
  have c9b1 : (a0_11 != a1_11) = false := bne_eq_false_iff_eq.mpr c9
  clear c9
  by_cases c10 : (a0_12 != a1_12) = true
  · rw [if_pos c10] at H
    exact absurd H (by simp)
  rw [if_neg c10] at H
  have c10b0 : (a0_12 != a1_12) = false := by simpa using c10
  (try (have c10b1 : decide (a0_12 = a1_12) = true := by simpa using c10))
  (try (have c10b2 : (a0_12 == a1_12) = true := by simpa using c10))
  clear c10
  replace H := Option.bind_eq_some_iff.mp H
  obtain ⟨t135, A110, H⟩ := H
  try dsimp only at H
  have A11 := Aside0.mk A110
  clear A110
  by_cases c12 : t135 = true
  rotate_left
  · replace c12 := Bool.eq_false_iff.mpr c12
    subst c12
    rw [if_neg (show ¬ (false = true) by decide)] at H
    exact absurd H (by simp)
  subst c12
  rw [if_pos rfl] at H
  replace H := Option.bind_eq_some_iff.mp H
  obtain ⟨t136, A130, H⟩ := H
  try dsimp only at H
  have A13 := Aside0.mk A130
  clear A130
  by_cases c14 : t136 = true
  rotate_left
  · replace c14 := Bool.eq_false_iff.mpr c14
    subst c14
    rw [if_neg (show ¬ (false = true) by decide)] at H
    exact absurd H (by simp)
  subst c14
  rw [if_pos rfl] at H
  replace H := Option.bind_eq_some_iff.mp H
  obtain ⟨t137, A150, H⟩ := H
  try dsimp only at H
  have A15 := Aside0.mk A150
  clear A150
  by_cases c16 : t137 = true
  rotate_left
  · replace c16 := Bool.eq_false_iff.mpr c16
    subst c16
    rw [if_neg (show ¬ (false = true) by decide)] at H
    exact absurd H (by simp)
  subst c16
  rw [if_pos rfl] at H
  obtain rfl := Option.some.inj H
  go_enter Try.func13, Try.ntmps13
  go_wp2_with (first | ((with_reducible refine gate_dst (N := 2) rfl ?_); refine box_event ?hg (N := 2) ?hd (cs := #[.int .i64 a0_0, .int .i64 a0_1, .string a0_2, .int .i64 a0_3, .int .i64 a0_4, .int .i64 a0_5, .int .i64 a0_6, .slice A0_7 l0_7.length c0_7, .int .i64 a0_8, .int .i64 a0_9, .slice A0_10 l0_10.length c0_10, .int .i64 a0_11, .bool a0_12, .int .i64 a0_13, .int .i64 a0_14, .slice A0_15 l0_15.length c0_15, .slice A0_16 l0_16.length c0_16, .slice A0_17 l0_17.length c0_17]) (t := 39) ?hr ?_; (case hd => rfl); (case hg => rfl); (case hr => first | (go_simp; done) | (go_simp; rfl)); intro gb130 hg w17 hbox hb; have n0_ := Aside0.mk (below_step (by repeat (first | (with_reducible first | exact HB.out | apply wa | apply wN | apply wd) | exact HB.out)) hb); have n1_ := Aside0.mk (hbox); have n2_ := Aside0.mk ((by rw [hg]; exact (below_size (by repeat (first | (with_reducible first | exact HB.out | apply wa | apply wN | apply wd) | exact HB.out))) : w.heap.size ≤ gb130)); have n3_ := n2_; clear HB; have HB := n0_; have BK130 := n1_; have GW130 := n2_; have GE130 := n3_; clear n0_ n1_ n2_ n3_; clear hb hbox hg) | ((with_reducible refine gate_dst (N := 3) rfl ?_); refine box_event ?hg (N := 3) ?hd (cs := #[.int .i64 a1_0, .int .i64 a1_1, .string a1_2, .int .i64 a1_3, .int .i64 a1_4, .int .i64 a1_5, .int .i64 a1_6, .slice A1_7 l1_7.length c1_7, .int .i64 a1_8, .int .i64 a1_9, .slice A1_10 l1_10.length c1_10, .int .i64 a1_11, .bool a1_12, .int .i64 a1_13, .int .i64 a1_14, .slice A1_15 l1_15.length c1_15, .slice A1_16 l1_16.length c1_16, .slice A1_17 l1_17.length c1_17]) (t := 39) ?hr ?_; (case hd => rfl); (case hg => rfl); (case hr => first | (go_simp; done) | (go_simp; rfl)); intro gb131 hg w18 hbox hb; have n0_ := Aside0.mk (bb (g := gb130) (by first | (with_reducible exact BK130.out) | (with_reducible exact bN BK130.out _) | (with_reducible exact bd BK130.out) | ((with_reducible repeat first | apply bN | apply bd | apply ba); exact BK130.out)) hb); have n1_ := Aside0.mk (below_step (by repeat (first | (with_reducible first | exact HB.out | apply wa | apply wN | apply wd | refine ws ?_ GE130.out) | exact HB.out)) hb); have n2_ := Aside0.mk (hbox); have n3_ := Aside0.mk ((by rw [hg]; exact (below_size (by repeat (first | (with_reducible first | exact HB.out | apply wa | apply wN | apply wd | refine ws ?_ GE130.out) | exact HB.out))) : w.heap.size ≤ gb131)); have n4_ := n3_; have n5_ := Aside0.mk ((by rw [hg]; exact Nat.ne_of_lt (blk_lt (g := gb130) (by (with_reducible repeat first | apply bN | apply bd | apply ba); exact BK130.out)) : gb130 ≠ gb131)); have n6_ := Aside0.mk ((by rw [hg]; exact Nat.ne_of_gt (blk_lt (g := gb130) (by (with_reducible repeat first | apply bN | apply bd | apply ba); exact BK130.out)) : gb131 ≠ gb130)); clear BK130; clear HB; have BK130 := n0_; have HB := n1_; have BK131 := n2_; have GW131 := n3_; have GE131 := n4_; have NB130_131 := n5_; have NB131_130 := n6_; clear n0_ n1_ n2_ n3_ n4_ n5_ n6_; clear hb hbox hg; have hnb19 := NB130_131.out; have hnc19 := NB131_130.out; have hcz20_0 : w18.cell? ⟨gb130, 0, none⟩ = some (.int .i64 a0_0) := (bc BK130.out 0).trans rfl; have hcz20_1 : w18.cell? ⟨gb130, 1, none⟩ = some (.int .i64 a0_1) := (bc BK130.out 1).trans rfl; have hcz20_2 : w18.cell? ⟨gb130, 2, none⟩ = some (.string a0_2) := (bc BK130.out 2).trans rfl; have hcz20_3 : w18.cell? ⟨gb130, 3, none⟩ = some (.int .i64 a0_3) := (bc BK130.out 3).trans rfl; have hcz20_4 : w18.cell? ⟨gb130, 4, none⟩ = some (.int .i64 a0_4) := (bc BK130.out 4).trans rfl; have hcz20_5 : w18.cell? ⟨gb130, 5, none⟩ = some (.int .i64 a0_5) := (bc BK130.out 5).trans rfl; have hcz20_6 : w18.cell? ⟨gb130, 6, none⟩ = some (.int .i64 a0_6) := (bc BK130.out 6).trans rfl; have hcz20_7 : w18.cell? ⟨gb130, 7, none⟩ = some (.slice A0_7 l0_7.length c0_7) := (bc BK130.out 7).trans rfl; have hcz20_8 : w18.cell? ⟨gb130, 8, none⟩ = some (.int .i64 a0_8) := (bc BK130.out 8).trans rfl; have hcz20_9 : w18.cell? ⟨gb130, 9, none⟩ = some (.int .i64 a0_9) := (bc BK130.out 9).trans rfl; have hcz20_10 : w18.cell? ⟨gb130, 10, none⟩ = some (.slice A0_10 l0_10.length c0_10) := (bc BK130.out 10).trans rfl; have hcz20_11 : w18.cell? ⟨gb130, 11, none⟩ = some (.int .i64 a0_11) := (bc BK130.out 11).trans rfl; have hcz20_12 : w18.cell? ⟨gb130, 12, none⟩ = some (.bool a0_12) := (bc BK130.out 12).trans rfl; have hcz20_13 : w18.cell? ⟨gb130, 13, none⟩ = some (.int .i64 a0_13) := (bc BK130.out 13).trans rfl; have hcz20_14 : w18.cell? ⟨gb130, 14, none⟩ = some (.int .i64 a0_14) := (bc BK130.out 14).trans rfl; have hcz20_15 : w18.cell? ⟨gb130, 15, none⟩ = some (.slice A0_15 l0_15.length c0_15) := (bc BK130.out 15).trans rfl; have hcz20_16 : w18.cell? ⟨gb130, 16, none⟩ = some (.slice A0_16 l0_16.length c0_16) := (bc BK130.out 16).trans rfl; have hcz20_17 : w18.cell? ⟨gb130, 17, none⟩ = some (.slice A0_17 l0_17.length c0_17) := (bc BK130.out 17).trans rfl; have hcz21_0 : w18.cell? ⟨gb131, 0, none⟩ = some (.int .i64 a1_0) := (bc BK131.out 0).trans rfl; have hcz21_1 : w18.cell? ⟨gb131, 1, none⟩ = some (.int .i64 a1_1) := (bc BK131.out 1).trans rfl; have hcz21_2 : w18.cell? ⟨gb131, 2, none⟩ = some (.string a1_2) := (bc BK131.out 2).trans rfl; have hcz21_3 : w18.cell? ⟨gb131, 3, none⟩ = some (.int .i64 a1_3) := (bc BK131.out 3).trans rfl; have hcz21_4 : w18.cell? ⟨gb131, 4, none⟩ = some (.int .i64 a1_4) := (bc BK131.out 4).trans rfl; have hcz21_5 : w18.cell? ⟨gb131, 5, none⟩ = some (.int .i64 a1_5) := (bc BK131.out 5).trans rfl; have hcz21_6 : w18.cell? ⟨gb131, 6, none⟩ = some (.int .i64 a1_6) := (bc BK131.out 6).trans rfl; have hcz21_7 : w18.cell? ⟨gb131, 7, none⟩ = some (.slice A1_7 l1_7.length c1_7) := (bc BK131.out 7).trans rfl; have hcz21_8 : w18.cell? ⟨gb131, 8, none⟩ = some (.int .i64 a1_8) := (bc BK131.out 8).trans rfl; have hcz21_9 : w18.cell? ⟨gb131, 9, none⟩ = some (.int .i64 a1_9) := (bc BK131.out 9).trans rfl; have hcz21_10 : w18.cell? ⟨gb131, 10, none⟩ = some (.slice A1_10 l1_10.length c1_10) := (bc BK131.out 10).trans rfl; have hcz21_11 : w18.cell? ⟨gb131, 11, none⟩ = some (.int .i64 a1_11) := (bc BK131.out 11).trans rfl; have hcz21_12 : w18.cell? ⟨gb131, 12, none⟩ = some (.bool a1_12) := (bc BK131.out 12).trans rfl; have hcz21_13 : w18.cell? ⟨gb131, 13, none⟩ = some (.int .i64 a1_13) := (bc BK131.out 13).trans rfl; have hcz21_14 : w18.cell? ⟨gb131, 14, none⟩ = some (.int .i64 a1_14) := (bc BK131.out 14).trans rfl; have hcz21_15 : w18.cell? ⟨gb131, 15, none⟩ = some (.slice A1_15 l1_15.length c1_15) := (bc BK131.out 15).trans rfl; have hcz21_16 : w18.cell? ⟨gb131, 16, none⟩ = some (.slice A1_16 l1_16.length c1_16) := (bc BK131.out 16).trans rfl; have hcz21_17 : w18.cell? ⟨gb131, 17, none⟩ = some (.slice A1_17 l1_17.length c1_17) := (bc BK131.out 17).trans rfl) | ((with_reducible refine gate_callee (f := 52) rfl ?_); refine goesL_ (some 9) rfl rfl Try.func52 (by kernel_rfl) rfl #[.agg #[.int .i64 a0_0, .int .i64 a0_1, .string a0_2, .int .i64 a0_3, .int .i64 a0_4, .int .i64 a0_5, .int .i64 a0_6], .agg #[.int .i64 a1_0, .int .i64 a1_1, .string a1_2, .int .i64 a1_3, .int .i64 a1_4, .int .i64 a1_5, .int .i64 a1_6]] rfl (by (try simp only [List.map_toArray, List.map_cons, List.map_nil]); first | done | rfl | (simp only [List.length_drop, List.length_take]; rfl)) ?_; (with_reducible refine (laws_eqSetup.calls a0_0 a0_1 a0_2 a0_3 a0_4 a0_5 a0_6 a1_0 a1_1 a1_2 a1_3 a1_4 a1_5 a1_6 true _ A3.out).mono ?_); rintro e w22 ⟨rfl, hb⟩; refine ⟨_, rfl, ?_⟩; have n0_ := Aside0.mk (bb (g := gb130) (by first | (with_reducible exact BK130.out) | (with_reducible exact bN BK130.out _) | (with_reducible exact bd BK130.out) | ((with_reducible repeat first | apply bN | apply bd | apply ba); exact BK130.out)) hb); have n1_ := Aside0.mk (bb (g := gb131) (by first | (with_reducible exact BK131.out) | (with_reducible exact bN BK131.out _) | (with_reducible exact bd BK131.out) | ((with_reducible repeat first | apply bN | apply bd | apply ba); exact BK131.out)) hb); have n2_ := Aside0.mk (below_step (by repeat (first | (with_reducible first | exact HB.out | apply wa | apply wN | apply wd | refine ws ?_ GE130.out | refine ws ?_ GE131.out) | exact HB.out)) hb); clear BK130; clear BK131; clear HB; have BK130 := n0_; have BK131 := n1_; have HB := n2_; clear n0_ n1_ n2_; (try clear hb); (try clear hb2); (try clear hk); (try clear hi); have hcz23_0 : w22.cell? ⟨gb130, 0, none⟩ = some (.int .i64 a0_0) := (bc BK130.out 0).trans rfl; have hcz23_1 : w22.cell? ⟨gb130, 1, none⟩ = some (.int .i64 a0_1) := (bc BK130.out 1).trans rfl; have hcz23_2 : w22.cell? ⟨gb130, 2, none⟩ = some (.string a0_2) := (bc BK130.out 2).trans rfl; have hcz23_3 : w22.cell? ⟨gb130, 3, none⟩ = some (.int .i64 a0_3) := (bc BK130.out 3).trans rfl; have hcz23_4 : w22.cell? ⟨gb130, 4, none⟩ = some (.int .i64 a0_4) := (bc BK130.out 4).trans rfl; have hcz23_5 : w22.cell? ⟨gb130, 5, none⟩ = some (.int .i64 a0_5) := (bc BK130.out 5).trans rfl; have hcz23_6 : w22.cell? ⟨gb130, 6, none⟩ = some (.int .i64 a0_6) := (bc BK130.out 6).trans rfl; have hcz23_7 : w22.cell? ⟨gb130, 7, none⟩ = some (.slice A0_7 l0_7.length c0_7) := (bc BK130.out 7).trans rfl; have hcz23_8 : w22.cell? ⟨gb130, 8, none⟩ = some (.int .i64 a0_8) := (bc BK130.out 8).trans rfl; have hcz23_9 : w22.cell? ⟨gb130, 9, none⟩ = some (.int .i64 a0_9) := (bc BK130.out 9).trans rfl; have hcz23_10 : w22.cell? ⟨gb130, 10, none⟩ = some (.slice A0_10 l0_10.length c0_10) := (bc BK130.out 10).trans rfl; have hcz23_11 : w22.cell? ⟨gb130, 11, none⟩ = some (.int .i64 a0_11) := (bc BK130.out 11).trans rfl; have hcz23_12 : w22.cell? ⟨gb130, 12, none⟩ = some (.bool a0_12) := (bc BK130.out 12).trans rfl; have hcz23_13 : w22.cell? ⟨gb130, 13, none⟩ = some (.int .i64 a0_13) := (bc BK130.out 13).trans rfl; have hcz23_14 : w22.cell? ⟨gb130, 14, none⟩ = some (.int .i64 a0_14) := (bc BK130.out 14).trans rfl; have hcz23_15 : w22.cell? ⟨gb130, 15, none⟩ = some (.slice A0_15 l0_15.length c0_15) := (bc BK130.out 15).trans rfl; have hcz23_16 : w22.cell? ⟨gb130, 16, none⟩ = some (.slice A0_16 l0_16.length c0_16) := (bc BK130.out 16).trans rfl; have hcz23_17 : w22.cell? ⟨gb130, 17, none⟩ = some (.slice A0_17 l0_17.length c0_17) := (bc BK130.out 17).trans rfl; have hcz24_0 : w22.cell? ⟨gb131, 0, none⟩ = some (.int .i64 a1_0) := (bc BK131.out 0).trans rfl; have hcz24_1 : w22.cell? ⟨gb131, 1, none⟩ = some (.int .i64 a1_1) := (bc BK131.out 1).trans rfl; have hcz24_2 : w22.cell? ⟨gb131, 2, none⟩ = some (.string a1_2) := (bc BK131.out 2).trans rfl; have hcz24_3 : w22.cell? ⟨gb131, 3, none⟩ = some (.int .i64 a1_3) := (bc BK131.out 3).trans rfl; have hcz24_4 : w22.cell? ⟨gb131, 4, none⟩ = some (.int .i64 a1_4) := (bc BK131.out 4).trans rfl; have hcz24_5 : w22.cell? ⟨gb131, 5, none⟩ = some (.int .i64 a1_5) := (bc BK131.out 5).trans rfl; have hcz24_6 : w22.cell? ⟨gb131, 6, none⟩ = some (.int .i64 a1_6) := (bc BK131.out 6).trans rfl; have hcz24_7 : w22.cell? ⟨gb131, 7, none⟩ = some (.slice A1_7 l1_7.length c1_7) := (bc BK131.out 7).trans rfl; have hcz24_8 : w22.cell? ⟨gb131, 8, none⟩ = some (.int .i64 a1_8) := (bc BK131.out 8).trans rfl; have hcz24_9 : w22.cell? ⟨gb131, 9, none⟩ = some (.int .i64 a1_9) := (bc BK131.out 9).trans rfl; have hcz24_10 : w22.cell? ⟨gb131, 10, none⟩ = some (.slice A1_10 l1_10.length c1_10) := (bc BK131.out 10).trans rfl; have hcz24_11 : w22.cell? ⟨gb131, 11, none⟩ = some (.int .i64 a1_11) := (bc BK131.out 11).trans rfl; have hcz24_12 : w22.cell? ⟨gb131, 12, none⟩ = some (.bool a1_12) := (bc BK131.out 12).trans rfl; have hcz24_13 : w22.cell? ⟨gb131, 13, none⟩ = some (.int .i64 a1_13) := (bc BK131.out 13).trans rfl; have hcz24_14 : w22.cell? ⟨gb131, 14, none⟩ = some (.int .i64 a1_14) := (bc BK131.out 14).trans rfl; have hcz24_15 : w22.cell? ⟨gb131, 15, none⟩ = some (.slice A1_15 l1_15.length c1_15) := (bc BK131.out 15).trans rfl; have hcz24_16 : w22.cell? ⟨gb131, 16, none⟩ = some (.slice A1_16 l1_16.length c1_16) := (bc BK131.out 16).trans rfl; have hcz24_17 : w22.cell? ⟨gb131, 17, none⟩ = some (.slice A1_17 l1_17.length c1_17) := (bc BK131.out 17).trans rfl) | ((with_reducible refine gate_callee (f := 53) rfl ?_); refine goesL_ (some 15) rfl rfl Try.func53 (by kernel_rfl) rfl #[.slice A0_7 l0_7.length c0_7, .slice A1_7 l1_7.length c1_7] rfl (by (try simp only [List.map_toArray, List.map_cons, List.map_nil]); first | done | rfl | (simp only [List.length_drop, List.length_take]; rfl)) ?_; (with_reducible refine (laws_eqRobotS.calls k _ _ l0_7 _ _ l1_7 true _ ?side1 ?side2 ?side3 ?side4 A5.out).mono ?_); (case side1 => repeat (first | exact (Kd.C_below HR0_7.out HB.out) | (with_reducible refine Kd.Ca ?_ _) | (with_reducible refine Kd.Cn ?_ _) | (with_reducible refine Kd.Cd ?_))); (case side2 => exact HC0_7.out); (case side3 => repeat (first | exact (Kd.C_below HR1_7.out HB.out) | (with_reducible refine Kd.Ca ?_ _) | (with_reducible refine Kd.Cn ?_ _) | (with_reducible refine Kd.Cd ?_))); (case side4 => exact HC1_7.out); rintro e w25 ⟨rfl, hb⟩; refine ⟨_, rfl, ?_⟩; have n0_ := Aside0.mk (bb (g := gb130) (by first | (with_reducible exact BK130.out) | (with_reducible exact bN BK130.out _) | (with_reducible exact bd BK130.out) | ((with_reducible repeat first | apply bN | apply bd | apply ba); exact BK130.out)) hb); have n1_ := Aside0.mk (bb (g := gb131) (by first | (with_reducible exact BK131.out) | (with_reducible exact bN BK131.out _) | (with_reducible exact bd BK131.out) | ((with_reducible repeat first | apply bN | apply bd | apply ba); exact BK131.out)) hb); have n2_ := Aside0.mk (below_step (by repeat (first | (with_reducible first | exact HB.out | apply wa | apply wN | apply wd | refine ws ?_ GE130.out | refine ws ?_ GE131.out) | exact HB.out)) hb); clear BK130; clear BK131; clear HB; have BK130 := n0_; have BK131 := n1_; have HB := n2_; clear n0_ n1_ n2_; (try clear hb); (try clear hb2); (try clear hk); (try clear hi); have hcz26_0 : w25.cell? ⟨gb130, 0, none⟩ = some (.int .i64 a0_0) := (bc BK130.out 0).trans rfl; have hcz26_1 : w25.cell? ⟨gb130, 1, none⟩ = some (.int .i64 a0_1) := (bc BK130.out 1).trans rfl; have hcz26_2 : w25.cell? ⟨gb130, 2, none⟩ = some (.string a0_2) := (bc BK130.out 2).trans rfl; have hcz26_3 : w25.cell? ⟨gb130, 3, none⟩ = some (.int .i64 a0_3) := (bc BK130.out 3).trans rfl; have hcz26_4 : w25.cell? ⟨gb130, 4, none⟩ = some (.int .i64 a0_4) := (bc BK130.out 4).trans rfl; have hcz26_5 : w25.cell? ⟨gb130, 5, none⟩ = some (.int .i64 a0_5) := (bc BK130.out 5).trans rfl; have hcz26_6 : w25.cell? ⟨gb130, 6, none⟩ = some (.int .i64 a0_6) := (bc BK130.out 6).trans rfl; have hcz26_7 : w25.cell? ⟨gb130, 7, none⟩ = some (.slice A0_7 l0_7.length c0_7) := (bc BK130.out 7).trans rfl; have hcz26_8 : w25.cell? ⟨gb130, 8, none⟩ = some (.int .i64 a0_8) := (bc BK130.out 8).trans rfl; have hcz26_9 : w25.cell? ⟨gb130, 9, none⟩ = some (.int .i64 a0_9) := (bc BK130.out 9).trans rfl; have hcz26_10 : w25.cell? ⟨gb130, 10, none⟩ = some (.slice A0_10 l0_10.length c0_10) := (bc BK130.out 10).trans rfl; have hcz26_11 : w25.cell? ⟨gb130, 11, none⟩ = some (.int .i64 a0_11) := (bc BK130.out 11).trans rfl; have hcz26_12 : w25.cell? ⟨gb130, 12, none⟩ = some (.bool a0_12) := (bc BK130.out 12).trans rfl; have hcz26_13 : w25.cell? ⟨gb130, 13, none⟩ = some (.int .i64 a0_13) := (bc BK130.out 13).trans rfl; have hcz26_14 : w25.cell? ⟨gb130, 14, none⟩ = some (.int .i64 a0_14) := (bc BK130.out 14).trans rfl; have hcz26_15 : w25.cell? ⟨gb130, 15, none⟩ = some (.slice A0_15 l0_15.length c0_15) := (bc BK130.out 15).trans rfl; have hcz26_16 : w25.cell? ⟨gb130, 16, none⟩ = some (.slice A0_16 l0_16.length c0_16) := (bc BK130.out 16).trans rfl; have hcz26_17 : w25.cell? ⟨gb130, 17, none⟩ = some (.slice A0_17 l0_17.length c0_17) := (bc BK130.out 17).trans rfl; have hcz27_0 : w25.cell? ⟨gb131, 0, none⟩ = some (.int .i64 a1_0) := (bc BK131.out 0).trans rfl; have hcz27_1 : w25.cell? ⟨gb131, 1, none⟩ = some (.int .i64 a1_1) := (bc BK131.out 1).trans rfl; have hcz27_2 : w25.cell? ⟨gb131, 2, none⟩ = some (.string a1_2) := (bc BK131.out 2).trans rfl; have hcz27_3 : w25.cell? ⟨gb131, 3, none⟩ = some (.int .i64 a1_3) := (bc BK131.out 3).trans rfl; have hcz27_4 : w25.cell? ⟨gb131, 4, none⟩ = some (.int .i64 a1_4) := (bc BK131.out 4).trans rfl; have hcz27_5 : w25.cell? ⟨gb131, 5, none⟩ = some (.int .i64 a1_5) := (bc BK131.out 5).trans rfl; have hcz27_6 : w25.cell? ⟨gb131, 6, none⟩ = some (.int .i64 a1_6) := (bc BK131.out 6).trans rfl; have hcz27_7 : w25.cell? ⟨gb131, 7, none⟩ = some (.slice A1_7 l1_7.length c1_7) := (bc BK131.out 7).trans rfl; have hcz27_8 : w25.cell? ⟨gb131, 8, none⟩ = some (.int .i64 a1_8) := (bc BK131.out 8).trans rfl; have hcz27_9 : w25.cell? ⟨gb131, 9, none⟩ = some (.int .i64 a1_9) := (bc BK131.out 9).trans rfl; have hcz27_10 : w25.cell? ⟨gb131, 10, none⟩ = some (.slice A1_10 l1_10.length c1_10) := (bc BK131.out 10).trans rfl; have hcz27_11 : w25.cell? ⟨gb131, 11, none⟩ = some (.int .i64 a1_11) := (bc BK131.out 11).trans rfl; have hcz27_12 : w25.cell? ⟨gb131, 12, none⟩ = some (.bool a1_12) := (bc BK131.out 12).trans rfl; have hcz27_13 : w25.cell? ⟨gb131, 13, none⟩ = some (.int .i64 a1_13) := (bc BK131.out 13).trans rfl; have hcz27_14 : w25.cell? ⟨gb131, 14, none⟩ = some (.int .i64 a1_14) := (bc BK131.out 14).trans rfl; have hcz27_15 : w25.cell? ⟨gb131, 15, none⟩ = some (.slice A1_15 l1_15.length c1_15) := (bc BK131.out 15).trans rfl; have hcz27_16 : w25.cell? ⟨gb131, 16, none⟩ = some (.slice A1_16 l1_16.length c1_16) := (bc BK131.out 16).trans rfl; have hcz27_17 : w25.cell? ⟨gb131, 17, none⟩ = some (.slice A1_17 l1_17.length c1_17) := (bc BK131.out 17).trans rfl) | ((with_reducible refine gate_callee (f := 54) rfl ?_); refine goesL_ (some 21) rfl rfl Try.func54 (by kernel_rfl) rfl #[.agg #[.int .i64 a0_8, .int .i64 a0_9, .slice A0_10 l0_10.length c0_10], .agg #[.int .i64 a1_8, .int .i64 a1_9, .slice A1_10 l1_10.length c1_10]] rfl (by (try simp only [List.map_toArray, List.map_cons, List.map_nil]); first | done | rfl | (simp only [List.length_drop, List.length_take]; rfl)) ?_; (with_reducible refine (laws_eqWindow.calls k a0_8 a0_9 _ _ l0_10 a1_8 a1_9 _ _ l1_10 true _ ?side1 ?side2 ?side3 ?side4 A7.out).mono ?_); (case side1 => repeat (first | exact (Kd.C_below HR0_10.out HB.out) | (with_reducible refine Kd.Ca ?_ _) | (with_reducible refine Kd.Cn ?_ _) | (with_reducible refine Kd.Cd ?_))); (case side2 => exact HC0_10.out); (case side3 => repeat (first | exact (Kd.C_below HR1_10.out HB.out) | (with_reducible refine Kd.Ca ?_ _) | (with_reducible refine Kd.Cn ?_ _) | (with_reducible refine Kd.Cd ?_))); (case side4 => exact HC1_10.out); rintro e w28 ⟨rfl, hb⟩; refine ⟨_, rfl, ?_⟩; have n0_ := Aside0.mk (bb (g := gb130) (by first | (with_reducible exact BK130.out) | (with_reducible exact bN BK130.out _) | (with_reducible exact bd BK130.out) | ((with_reducible repeat first | apply bN | apply bd | apply ba); exact BK130.out)) hb); have n1_ := Aside0.mk (bb (g := gb131) (by first | (with_reducible exact BK131.out) | (with_reducible exact bN BK131.out _) | (with_reducible exact bd BK131.out) | ((with_reducible repeat first | apply bN | apply bd | apply ba); exact BK131.out)) hb); have n2_ := Aside0.mk (below_step (by repeat (first | (with_reducible first | exact HB.out | apply wa | apply wN | apply wd | refine ws ?_ GE130.out | refine ws ?_ GE131.out) | exact HB.out)) hb); clear BK130; clear BK131; clear HB; have BK130 := n0_; have BK131 := n1_; have HB := n2_; clear n0_ n1_ n2_; (try clear hb); (try clear hb2); (try clear hk); (try clear hi); have hcz29_0 : w28.cell? ⟨gb130, 0, none⟩ = some (.int .i64 a0_0) := (bc BK130.out 0).trans rfl; have hcz29_1 : w28.cell? ⟨gb130, 1, none⟩ = some (.int .i64 a0_1) := (bc BK130.out 1).trans rfl; have hcz29_2 : w28.cell? ⟨gb130, 2, none⟩ = some (.string a0_2) := (bc BK130.out 2).trans rfl; have hcz29_3 : w28.cell? ⟨gb130, 3, none⟩ = some (.int .i64 a0_3) := (bc BK130.out 3).trans rfl; have hcz29_4 : w28.cell? ⟨gb130, 4, none⟩ = some (.int .i64 a0_4) := (bc BK130.out 4).trans rfl; have hcz29_5 : w28.cell? ⟨gb130, 5, none⟩ = some (.int .i64 a0_5) := (bc BK130.out 5).trans rfl; have hcz29_6 : w28.cell? ⟨gb130, 6, none⟩ = some (.int .i64 a0_6) := (bc BK130.out 6).trans rfl; have hcz29_7 : w28.cell? ⟨gb130, 7, none⟩ = some (.slice A0_7 l0_7.length c0_7) := (bc BK130.out 7).trans rfl; have hcz29_8 : w28.cell? ⟨gb130, 8, none⟩ = some (.int .i64 a0_8) := (bc BK130.out 8).trans rfl; have hcz29_9 : w28.cell? ⟨gb130, 9, none⟩ = some (.int .i64 a0_9) := (bc BK130.out 9).trans rfl; have hcz29_10 : w28.cell? ⟨gb130, 10, none⟩ = some (.slice A0_10 l0_10.length c0_10) := (bc BK130.out 10).trans rfl; have hcz29_11 : w28.cell? ⟨gb130, 11, none⟩ = some (.int .i64 a0_11) := (bc BK130.out 11).trans rfl; have hcz29_12 : w28.cell? ⟨gb130, 12, none⟩ = some (.bool a0_12) := (bc BK130.out 12).trans rfl; have hcz29_13 : w28.cell? ⟨gb130, 13, none⟩ = some (.int .i64 a0_13) := (bc BK130.out 13).trans rfl; have hcz29_14 : w28.cell? ⟨gb130, 14, none⟩ = some (.int .i64 a0_14) := (bc BK130.out 14).trans rfl; have hcz29_15 : w28.cell? ⟨gb130, 15, none⟩ = some (.slice A0_15 l0_15.length c0_15) := (bc BK130.out 15).trans rfl; have hcz29_16 : w28.cell? ⟨gb130, 16, none⟩ = some (.slice A0_16 l0_16.length c0_16) := (bc BK130.out 16).trans rfl; have hcz29_17 : w28.cell? ⟨gb130, 17, none⟩ = some (.slice A0_17 l0_17.length c0_17) := (bc BK130.out 17).trans rfl; have hcz30_0 : w28.cell? ⟨gb131, 0, none⟩ = some (.int .i64 a1_0) := (bc BK131.out 0).trans rfl; have hcz30_1 : w28.cell? ⟨gb131, 1, none⟩ = some (.int .i64 a1_1) := (bc BK131.out 1).trans rfl; have hcz30_2 : w28.cell? ⟨gb131, 2, none⟩ = some (.string a1_2) := (bc BK131.out 2).trans rfl; have hcz30_3 : w28.cell? ⟨gb131, 3, none⟩ = some (.int .i64 a1_3) := (bc BK131.out 3).trans rfl; have hcz30_4 : w28.cell? ⟨gb131, 4, none⟩ = some (.int .i64 a1_4) := (bc BK131.out 4).trans rfl; have hcz30_5 : w28.cell? ⟨gb131, 5, none⟩ = some (.int .i64 a1_5) := (bc BK131.out 5).trans rfl; have hcz30_6 : w28.cell? ⟨gb131, 6, none⟩ = some (.int .i64 a1_6) := (bc BK131.out 6).trans rfl; have hcz30_7 : w28.cell? ⟨gb131, 7, none⟩ = some (.slice A1_7 l1_7.length c1_7) := (bc BK131.out 7).trans rfl; have hcz30_8 : w28.cell? ⟨gb131, 8, none⟩ = some (.int .i64 a1_8) := (bc BK131.out 8).trans rfl; have hcz30_9 : w28.cell? ⟨gb131, 9, none⟩ = some (.int .i64 a1_9) := (bc BK131.out 9).trans rfl; have hcz30_10 : w28.cell? ⟨gb131, 10, none⟩ = some (.slice A1_10 l1_10.length c1_10) := (bc BK131.out 10).trans rfl; have hcz30_11 : w28.cell? ⟨gb131, 11, none⟩ = some (.int .i64 a1_11) := (bc BK131.out 11).trans rfl; have hcz30_12 : w28.cell? ⟨gb131, 12, none⟩ = some (.bool a1_12) := (bc BK131.out 12).trans rfl; have hcz30_13 : w28.cell? ⟨gb131, 13, none⟩ = some (.int .i64 a1_13) := (bc BK131.out 13).trans rfl; have hcz30_14 : w28.cell? ⟨gb131, 14, none⟩ = some (.int .i64 a1_14) := (bc BK131.out 14).trans rfl; have hcz30_15 : w28.cell? ⟨gb131, 15, none⟩ = some (.slice A1_15 l1_15.length c1_15) := (bc BK131.out 15).trans rfl; have hcz30_16 : w28.cell? ⟨gb131, 16, none⟩ = some (.slice A1_16 l1_16.length c1_16) := (bc BK131.out 16).trans rfl; have hcz30_17 : w28.cell? ⟨gb131, 17, none⟩ = some (.slice A1_17 l1_17.length c1_17) := (bc BK131.out 17).trans rfl) | ((with_reducible refine gate_callee (f := 55) rfl ?_); refine goesL_ (some 37) rfl rfl Try.func55 (by kernel_rfl) rfl #[.agg #[.int .i64 a0_13, .int .i64 a0_14, .slice A0_15 l0_15.length c0_15], .agg #[.int .i64 a1_13, .int .i64 a1_14, .slice A1_15 l1_15.length c1_15]] rfl (by (try simp only [List.map_toArray, List.map_cons, List.map_nil]); first | done | rfl | (simp only [List.length_drop, List.length_take]; rfl)) ?_; (with_reducible refine (laws_eqPlan.calls k a0_13 a0_14 _ _ l0_15 a1_13 a1_14 _ _ l1_15 true _ ?side1 ?side2 ?side3 ?side4 A11.out).mono ?_); (case side1 => repeat (first | exact (Kd.C_below HR0_15.out HB.out) | (with_reducible refine Kd.Ca ?_ _) | (with_reducible refine Kd.Cn ?_ _) | (with_reducible refine Kd.Cd ?_))); (case side2 => exact HC0_15.out); (case side3 => repeat (first | exact (Kd.C_below HR1_15.out HB.out) | (with_reducible refine Kd.Ca ?_ _) | (with_reducible refine Kd.Cn ?_ _) | (with_reducible refine Kd.Cd ?_))); (case side4 => exact HC1_15.out); rintro e w31 ⟨rfl, hb⟩; refine ⟨_, rfl, ?_⟩; have n0_ := Aside0.mk (bb (g := gb130) (by first | (with_reducible exact BK130.out) | (with_reducible exact bN BK130.out _) | (with_reducible exact bd BK130.out) | ((with_reducible repeat first | apply bN | apply bd | apply ba); exact BK130.out)) hb); have n1_ := Aside0.mk (bb (g := gb131) (by first | (with_reducible exact BK131.out) | (with_reducible exact bN BK131.out _) | (with_reducible exact bd BK131.out) | ((with_reducible repeat first | apply bN | apply bd | apply ba); exact BK131.out)) hb); have n2_ := Aside0.mk (below_step (by repeat (first | (with_reducible first | exact HB.out | apply wa | apply wN | apply wd | refine ws ?_ GE130.out | refine ws ?_ GE131.out) | exact HB.out)) hb); clear BK130; clear BK131; clear HB; have BK130 := n0_; have BK131 := n1_; have HB := n2_; clear n0_ n1_ n2_; (try clear hb); (try clear hb2); (try clear hk); (try clear hi); have hcz32_0 : w31.cell? ⟨gb130, 0, none⟩ = some (.int .i64 a0_0) := (bc BK130.out 0).trans rfl; have hcz32_1 : w31.cell? ⟨gb130, 1, none⟩ = some (.int .i64 a0_1) := (bc BK130.out 1).trans rfl; have hcz32_2 : w31.cell? ⟨gb130, 2, none⟩ = some (.string a0_2) := (bc BK130.out 2).trans rfl; have hcz32_3 : w31.cell? ⟨gb130, 3, none⟩ = some (.int .i64 a0_3) := (bc BK130.out 3).trans rfl; have hcz32_4 : w31.cell? ⟨gb130, 4, none⟩ = some (.int .i64 a0_4) := (bc BK130.out 4).trans rfl; have hcz32_5 : w31.cell? ⟨gb130, 5, none⟩ = some (.int .i64 a0_5) := (bc BK130.out 5).trans rfl; have hcz32_6 : w31.cell? ⟨gb130, 6, none⟩ = some (.int .i64 a0_6) := (bc BK130.out 6).trans rfl; have hcz32_7 : w31.cell? ⟨gb130, 7, none⟩ = some (.slice A0_7 l0_7.length c0_7) := (bc BK130.out 7).trans rfl; have hcz32_8 : w31.cell? ⟨gb130, 8, none⟩ = some (.int .i64 a0_8) := (bc BK130.out 8).trans rfl; have hcz32_9 : w31.cell? ⟨gb130, 9, none⟩ = some (.int .i64 a0_9) := (bc BK130.out 9).trans rfl; have hcz32_10 : w31.cell? ⟨gb130, 10, none⟩ = some (.slice A0_10 l0_10.length c0_10) := (bc BK130.out 10).trans rfl; have hcz32_11 : w31.cell? ⟨gb130, 11, none⟩ = some (.int .i64 a0_11) := (bc BK130.out 11).trans rfl; have hcz32_12 : w31.cell? ⟨gb130, 12, none⟩ = some (.bool a0_12) := (bc BK130.out 12).trans rfl; have hcz32_13 : w31.cell? ⟨gb130, 13, none⟩ = some (.int .i64 a0_13) := (bc BK130.out 13).trans rfl; have hcz32_14 : w31.cell? ⟨gb130, 14, none⟩ = some (.int .i64 a0_14) := (bc BK130.out 14).trans rfl; have hcz32_15 : w31.cell? ⟨gb130, 15, none⟩ = some (.slice A0_15 l0_15.length c0_15) := (bc BK130.out 15).trans rfl; have hcz32_16 : w31.cell? ⟨gb130, 16, none⟩ = some (.slice A0_16 l0_16.length c0_16) := (bc BK130.out 16).trans rfl; have hcz32_17 : w31.cell? ⟨gb130, 17, none⟩ = some (.slice A0_17 l0_17.length c0_17) := (bc BK130.out 17).trans rfl; have hcz33_0 : w31.cell? ⟨gb131, 0, none⟩ = some (.int .i64 a1_0) := (bc BK131.out 0).trans rfl; have hcz33_1 : w31.cell? ⟨gb131, 1, none⟩ = some (.int .i64 a1_1) := (bc BK131.out 1).trans rfl; have hcz33_2 : w31.cell? ⟨gb131, 2, none⟩ = some (.string a1_2) := (bc BK131.out 2).trans rfl; have hcz33_3 : w31.cell? ⟨gb131, 3, none⟩ = some (.int .i64 a1_3) := (bc BK131.out 3).trans rfl; have hcz33_4 : w31.cell? ⟨gb131, 4, none⟩ = some (.int .i64 a1_4) := (bc BK131.out 4).trans rfl; have hcz33_5 : w31.cell? ⟨gb131, 5, none⟩ = some (.int .i64 a1_5) := (bc BK131.out 5).trans rfl; have hcz33_6 : w31.cell? ⟨gb131, 6, none⟩ = some (.int .i64 a1_6) := (bc BK131.out 6).trans rfl; have hcz33_7 : w31.cell? ⟨gb131, 7, none⟩ = some (.slice A1_7 l1_7.length c1_7) := (bc BK131.out 7).trans rfl; have hcz33_8 : w31.cell? ⟨gb131, 8, none⟩ = some (.int .i64 a1_8) := (bc BK131.out 8).trans rfl; have hcz33_9 : w31.cell? ⟨gb131, 9, none⟩ = some (.int .i64 a1_9) := (bc BK131.out 9).trans rfl; have hcz33_10 : w31.cell? ⟨gb131, 10, none⟩ = some (.slice A1_10 l1_10.length c1_10) := (bc BK131.out 10).trans rfl; have hcz33_11 : w31.cell? ⟨gb131, 11, none⟩ = some (.int .i64 a1_11) := (bc BK131.out 11).trans rfl; have hcz33_12 : w31.cell? ⟨gb131, 12, none⟩ = some (.bool a1_12) := (bc BK131.out 12).trans rfl; have hcz33_13 : w31.cell? ⟨gb131, 13, none⟩ = some (.int .i64 a1_13) := (bc BK131.out 13).trans rfl; have hcz33_14 : w31.cell? ⟨gb131, 14, none⟩ = some (.int .i64 a1_14) := (bc BK131.out 14).trans rfl; have hcz33_15 : w31.cell? ⟨gb131, 15, none⟩ = some (.slice A1_15 l1_15.length c1_15) := (bc BK131.out 15).trans rfl; have hcz33_16 : w31.cell? ⟨gb131, 16, none⟩ = some (.slice A1_16 l1_16.length c1_16) := (bc BK131.out 16).trans rfl; have hcz33_17 : w31.cell? ⟨gb131, 17, none⟩ = some (.slice A1_17 l1_17.length c1_17) := (bc BK131.out 17).trans rfl) | ((with_reducible refine gate_callee (f := 56) rfl ?_); refine goesL_ (some 43) rfl rfl Try.func56 (by kernel_rfl) rfl #[.slice A0_16 l0_16.length c0_16, .slice A1_16 l1_16.length c1_16] rfl (by (try simp only [List.map_toArray, List.map_cons, List.map_nil]); first | done | rfl | (simp only [List.length_drop, List.length_take]; rfl)) ?_; (with_reducible refine (laws_eqJobS.calls k _ _ l0_16 _ _ l1_16 true _ ?side1 ?side2 ?side3 ?side4 A13.out).mono ?_); (case side1 => repeat (first | exact (Kd.C_below HR0_16.out HB.out) | (with_reducible refine Kd.Ca ?_ _) | (with_reducible refine Kd.Cn ?_ _) | (with_reducible refine Kd.Cd ?_))); (case side2 => exact HC0_16.out); (case side3 => repeat (first | exact (Kd.C_below HR1_16.out HB.out) | (with_reducible refine Kd.Ca ?_ _) | (with_reducible refine Kd.Cn ?_ _) | (with_reducible refine Kd.Cd ?_))); (case side4 => exact HC1_16.out); rintro e w34 ⟨rfl, hb⟩; refine ⟨_, rfl, ?_⟩; have n0_ := Aside0.mk (bb (g := gb130) (by first | (with_reducible exact BK130.out) | (with_reducible exact bN BK130.out _) | (with_reducible exact bd BK130.out) | ((with_reducible repeat first | apply bN | apply bd | apply ba); exact BK130.out)) hb); have n1_ := Aside0.mk (bb (g := gb131) (by first | (with_reducible exact BK131.out) | (with_reducible exact bN BK131.out _) | (with_reducible exact bd BK131.out) | ((with_reducible repeat first | apply bN | apply bd | apply ba); exact BK131.out)) hb); have n2_ := Aside0.mk (below_step (by repeat (first | (with_reducible first | exact HB.out | apply wa | apply wN | apply wd | refine ws ?_ GE130.out | refine ws ?_ GE131.out) | exact HB.out)) hb); clear BK130; clear BK131; clear HB; have BK130 := n0_; have BK131 := n1_; have HB := n2_; clear n0_ n1_ n2_; (try clear hb); (try clear hb2); (try clear hk); (try clear hi); have hcz35_0 : w34.cell? ⟨gb130, 0, none⟩ = some (.int .i64 a0_0) := (bc BK130.out 0).trans rfl; have hcz35_1 : w34.cell? ⟨gb130, 1, none⟩ = some (.int .i64 a0_1) := (bc BK130.out 1).trans rfl; have hcz35_2 : w34.cell? ⟨gb130, 2, none⟩ = some (.string a0_2) := (bc BK130.out 2).trans rfl; have hcz35_3 : w34.cell? ⟨gb130, 3, none⟩ = some (.int .i64 a0_3) := (bc BK130.out 3).trans rfl; have hcz35_4 : w34.cell? ⟨gb130, 4, none⟩ = some (.int .i64 a0_4) := (bc BK130.out 4).trans rfl; have hcz35_5 : w34.cell? ⟨gb130, 5, none⟩ = some (.int .i64 a0_5) := (bc BK130.out 5).trans rfl; have hcz35_6 : w34.cell? ⟨gb130, 6, none⟩ = some (.int .i64 a0_6) := (bc BK130.out 6).trans rfl; have hcz35_7 : w34.cell? ⟨gb130, 7, none⟩ = some (.slice A0_7 l0_7.length c0_7) := (bc BK130.out 7).trans rfl; have hcz35_8 : w34.cell? ⟨gb130, 8, none⟩ = some (.int .i64 a0_8) := (bc BK130.out 8).trans rfl; have hcz35_9 : w34.cell? ⟨gb130, 9, none⟩ = some (.int .i64 a0_9) := (bc BK130.out 9).trans rfl; have hcz35_10 : w34.cell? ⟨gb130, 10, none⟩ = some (.slice A0_10 l0_10.length c0_10) := (bc BK130.out 10).trans rfl; have hcz35_11 : w34.cell? ⟨gb130, 11, none⟩ = some (.int .i64 a0_11) := (bc BK130.out 11).trans rfl; have hcz35_12 : w34.cell? ⟨gb130, 12, none⟩ = some (.bool a0_12) := (bc BK130.out 12).trans rfl; have hcz35_13 : w34.cell? ⟨gb130, 13, none⟩ = some (.int .i64 a0_13) := (bc BK130.out 13).trans rfl; have hcz35_14 : w34.cell? ⟨gb130, 14, none⟩ = some (.int .i64 a0_14) := (bc BK130.out 14).trans rfl; have hcz35_15 : w34.cell? ⟨gb130, 15, none⟩ = some (.slice A0_15 l0_15.length c0_15) := (bc BK130.out 15).trans rfl; have hcz35_16 : w34.cell? ⟨gb130, 16, none⟩ = some (.slice A0_16 l0_16.length c0_16) := (bc BK130.out 16).trans rfl; have hcz35_17 : w34.cell? ⟨gb130, 17, none⟩ = some (.slice A0_17 l0_17.length c0_17) := (bc BK130.out 17).trans rfl; have hcz36_0 : w34.cell? ⟨gb131, 0, none⟩ = some (.int .i64 a1_0) := (bc BK131.out 0).trans rfl; have hcz36_1 : w34.cell? ⟨gb131, 1, none⟩ = some (.int .i64 a1_1) := (bc BK131.out 1).trans rfl; have hcz36_2 : w34.cell? ⟨gb131, 2, none⟩ = some (.string a1_2) := (bc BK131.out 2).trans rfl; have hcz36_3 : w34.cell? ⟨gb131, 3, none⟩ = some (.int .i64 a1_3) := (bc BK131.out 3).trans rfl; have hcz36_4 : w34.cell? ⟨gb131, 4, none⟩ = some (.int .i64 a1_4) := (bc BK131.out 4).trans rfl; have hcz36_5 : w34.cell? ⟨gb131, 5, none⟩ = some (.int .i64 a1_5) := (bc BK131.out 5).trans rfl; have hcz36_6 : w34.cell? ⟨gb131, 6, none⟩ = some (.int .i64 a1_6) := (bc BK131.out 6).trans rfl; have hcz36_7 : w34.cell? ⟨gb131, 7, none⟩ = some (.slice A1_7 l1_7.length c1_7) := (bc BK131.out 7).trans rfl; have hcz36_8 : w34.cell? ⟨gb131, 8, none⟩ = some (.int .i64 a1_8) := (bc BK131.out 8).trans rfl; have hcz36_9 : w34.cell? ⟨gb131, 9, none⟩ = some (.int .i64 a1_9) := (bc BK131.out 9).trans rfl; have hcz36_10 : w34.cell? ⟨gb131, 10, none⟩ = some (.slice A1_10 l1_10.length c1_10) := (bc BK131.out 10).trans rfl; have hcz36_11 : w34.cell? ⟨gb131, 11, none⟩ = some (.int .i64 a1_11) := (bc BK131.out 11).trans rfl; have hcz36_12 : w34.cell? ⟨gb131, 12, none⟩ = some (.bool a1_12) := (bc BK131.out 12).trans rfl; have hcz36_13 : w34.cell? ⟨gb131, 13, none⟩ = some (.int .i64 a1_13) := (bc BK131.out 13).trans rfl; have hcz36_14 : w34.cell? ⟨gb131, 14, none⟩ = some (.int .i64 a1_14) := (bc BK131.out 14).trans rfl; have hcz36_15 : w34.cell? ⟨gb131, 15, none⟩ = some (.slice A1_15 l1_15.length c1_15) := (bc BK131.out 15).trans rfl; have hcz36_16 : w34.cell? ⟨gb131, 16, none⟩ = some (.slice A1_16 l1_16.length c1_16) := (bc BK131.out 16).trans rfl; have hcz36_17 : w34.cell? ⟨gb131, 17, none⟩ = some (.slice A1_17 l1_17.length c1_17) := (bc BK131.out 17).trans rfl) | ((with_reducible refine gate_callee (f := 28) rfl ?_); refine goesL_ (some 49) rfl rfl Try.func28 (by kernel_rfl) rfl #[.slice A0_17 l0_17.length c0_17, .slice A1_17 l1_17.length c1_17] rfl (by (try simp only [List.map_toArray, List.map_cons, List.map_nil]); first | done | rfl | (simp only [List.length_drop, List.length_take]; rfl)) ?_; (with_reducible refine (laws_eqIntS.calls k _ _ l0_17 _ _ l1_17 true _ ?side1 ?side2 ?side3 ?side4 A15.out).mono ?_); (case side1 => repeat (first | exact (Kd.C_below HR0_17.out HB.out) | (with_reducible refine Kd.Ca ?_ _) | (with_reducible refine Kd.Cn ?_ _) | (with_reducible refine Kd.Cd ?_))); (case side2 => exact HC0_17.out); (case side3 => repeat (first | exact (Kd.C_below HR1_17.out HB.out) | (with_reducible refine Kd.Ca ?_ _) | (with_reducible refine Kd.Cn ?_ _) | (with_reducible refine Kd.Cd ?_))); (case side4 => exact HC1_17.out); rintro e w' ⟨rfl, ⟨nd, rfl⟩⟩; refine ⟨_, rfl, ?_⟩))
  go_ret
  exact ⟨by first | rfl | (simp [errW_none, errW_some] <;> rfl) | (simp [*, errW_none, errW_some] <;> rfl), by repeat (first | (with_reducible first | exact HB.out | apply wa | apply wN | apply wd | refine ws ?_ GE130.out | refine ws ?_ GE131.out) | exact HB.out)⟩

/-! ### laws_szGrid: function 46 -/
def laws_szGrid.f (a0_0 : Int) (a0_1 : Int) (a0_2 : ByteArray) (a1 : Int) : Option (Int) := if (wrap64 (a1 - (a0_2.size : Int))) < 0 then (some (-1)) else (some (wrap64 (a1 - (a0_2.size : Int))))
set_option maxHeartbeats 8000000 in
set_option maxRecDepth 100000 in
theorem laws_szGrid.calls (a0_0 : Int) (a0_1 : Int) (a0_2 : ByteArray) (a1 : Int) (r : Int) (w : World) (h : laws_szGrid.f a0_0 a0_1 a0_2 a1 = some r) :
    Calls Try.prog 46 #[.agg #[.int .i64 a0_0, .int .i64 a0_1, .string a0_2], .int .i64 a1] w fun e w' => e = .returned (.int .i64 r) ∧ Below w.heap.size w w' := by
  have hu23 := Try.underlying23
  have HB := Aside0.mk (Below.refl w.heap.size w)
  have H : (if (wrap64 (a1 - (a0_2.size : Int))) < 0 then (some (-1)) else (some (wrap64 (a1 - (a0_2.size : Int))))) = some r := h
  clear h
  by_cases c3 : (wrap64 (a1 - (a0_2.size : Int))) < 0
  · rw [if_pos c3] at H
    have c3b0 : decide ((wrap64 (a1 - (a0_2.size : Int))) < 0) = true := decide_eq_true c3
    clear c3
    obtain rfl := Option.some.inj H
    go_enter Try.func46, Try.ntmps46
    go_wp2_with (first | ((with_reducible refine gate_dst (N := 2) rfl ?_); refine box_event ?hg (N := 2) ?hd (cs := #[.int .i64 a0_0, .int .i64 a0_1, .string a0_2]) (t := 23) ?hr ?_; (case hd => rfl); (case hg => rfl); (case hr => first | (go_simp; done) | (go_simp; rfl)); intro gb138 hg w4 hbox hb; have n0_ := Aside0.mk (below_step (by repeat (first | (with_reducible first | exact HB.out | apply wa | apply wN | apply wd) | exact HB.out)) hb); have n1_ := Aside0.mk (hbox); have n2_ := Aside0.mk ((by rw [hg]; exact (below_size (by repeat (first | (with_reducible first | exact HB.out | apply wa | apply wN | apply wd) | exact HB.out))) : w.heap.size ≤ gb138)); have n3_ := n2_; clear HB; have HB := n0_; have BK138 := n1_; have GW138 := n2_; have GE138 := n3_; clear n0_ n1_ n2_ n3_; clear hb hbox hg; have hcz5_2 : w4.cell? ⟨gb138, 2, none⟩ = some (.string a0_2) := (bc BK138.out 2).trans rfl))
    go_ret
    exact ⟨by first | rfl | (simp [errW_none, errW_some] <;> rfl) | (simp [*, errW_none, errW_some] <;> rfl), by repeat (first | (with_reducible first | exact HB.out | apply wa | apply wN | apply wd | refine ws ?_ GE138.out) | exact HB.out)⟩
  rw [if_neg c3] at H
  have c3b0 : decide ((wrap64 (a1 - (a0_2.size : Int))) < 0) = false := decide_eq_false c3
  clear c3
  obtain rfl := Option.some.inj H
  go_enter Try.func46, Try.ntmps46
  go_wp2_with (first | ((with_reducible refine gate_dst (N := 2) rfl ?_); refine box_event ?hg (N := 2) ?hd (cs := #[.int .i64 a0_0, .int .i64 a0_1, .string a0_2]) (t := 23) ?hr ?_; (case hd => rfl); (case hg => rfl); (case hr => first | (go_simp; done) | (go_simp; rfl)); intro gb138 hg w6 hbox hb; have n0_ := Aside0.mk (below_step (by repeat (first | (with_reducible first | exact HB.out | apply wa | apply wN | apply wd) | exact HB.out)) hb); have n1_ := Aside0.mk (hbox); have n2_ := Aside0.mk ((by rw [hg]; exact (below_size (by repeat (first | (with_reducible first | exact HB.out | apply wa | apply wN | apply wd) | exact HB.out))) : w.heap.size ≤ gb138)); have n3_ := n2_; clear HB; have HB := n0_; have BK138 := n1_; have GW138 := n2_; have GE138 := n3_; clear n0_ n1_ n2_ n3_; clear hb hbox hg; have hcz7_2 : w6.cell? ⟨gb138, 2, none⟩ = some (.string a0_2) := (bc BK138.out 2).trans rfl))
  go_ret
  exact ⟨by first | rfl | (simp [errW_none, errW_some] <;> rfl) | (simp [*, errW_none, errW_some] <;> rfl), by repeat (first | (with_reducible first | exact HB.out | apply wa | apply wN | apply wd | refine ws ?_ GE138.out) | exact HB.out)⟩

/-! ### laws_szSetup: function 9 -/
def laws_szSetup.f (a0_0 : Int) (a0_1 : Int) (a0_2 : ByteArray) (a0_3 : Int) (a0_4 : Int) (a0_5 : Int) (a0_6 : Int) (a1 : Int) : Option (Int) := (laws_szGrid.f a0_0 a0_1 a0_2 a1).bind fun t140 => (if t140 < 0 then (some (-1)) else (some t140))
set_option maxHeartbeats 8000000 in
set_option maxRecDepth 100000 in
theorem laws_szSetup.calls (a0_0 : Int) (a0_1 : Int) (a0_2 : ByteArray) (a0_3 : Int) (a0_4 : Int) (a0_5 : Int) (a0_6 : Int) (a1 : Int) (r : Int) (w : World) (h : laws_szSetup.f a0_0 a0_1 a0_2 a0_3 a0_4 a0_5 a0_6 a1 = some r) :
    Calls Try.prog 9 #[.agg #[.int .i64 a0_0, .int .i64 a0_1, .string a0_2, .int .i64 a0_3, .int .i64 a0_4, .int .i64 a0_5, .int .i64 a0_6], .int .i64 a1] w fun e w' => e = .returned (.int .i64 r) ∧ Below w.heap.size w w' := by
  have hu25 := Try.underlying25
  have hu23 := Try.underlying23
  have HB := Aside0.mk (Below.refl w.heap.size w)
  have H : ((laws_szGrid.f a0_0 a0_1 a0_2 a1).bind fun t140 => (if t140 < 0 then (some (-1)) else (some t140))) = some r := h
  clear h
  replace H := Option.bind_eq_some_iff.mp H
  obtain ⟨t140, A30, H⟩ := H
  try dsimp only at H
  have A3 := Aside0.mk A30
  clear A30
  by_cases c4 : t140 < 0
  · rw [if_pos c4] at H
    have c4b0 : decide (t140 < 0) = true := decide_eq_true c4
    clear c4
    obtain rfl := Option.some.inj H
    go_enter Try.func9, Try.ntmps9
    go_wp2_with (first | ((with_reducible refine gate_dst (N := 2) rfl ?_); refine box_event ?hg (N := 2) ?hd (cs := #[.int .i64 a0_0, .int .i64 a0_1, .string a0_2, .int .i64 a0_3, .int .i64 a0_4, .int .i64 a0_5, .int .i64 a0_6]) (t := 25) ?hr ?_; (case hd => rfl); (case hg => rfl); (case hr => first | (go_simp; done) | (go_simp; rfl)); intro gb139 hg w5 hbox hb; have n0_ := Aside0.mk (below_step (by repeat (first | (with_reducible first | exact HB.out | apply wa | apply wN | apply wd) | exact HB.out)) hb); have n1_ := Aside0.mk (hbox); have n2_ := Aside0.mk ((by rw [hg]; exact (below_size (by repeat (first | (with_reducible first | exact HB.out | apply wa | apply wN | apply wd) | exact HB.out))) : w.heap.size ≤ gb139)); have n3_ := n2_; clear HB; have HB := n0_; have BK139 := n1_; have GW139 := n2_; have GE139 := n3_; clear n0_ n1_ n2_ n3_; clear hb hbox hg; have hcz6_0 : w5.cell? ⟨gb139, 0, none⟩ = some (.int .i64 a0_0) := (bc BK139.out 0).trans rfl; have hcz6_1 : w5.cell? ⟨gb139, 1, none⟩ = some (.int .i64 a0_1) := (bc BK139.out 1).trans rfl; have hcz6_2 : w5.cell? ⟨gb139, 2, none⟩ = some (.string a0_2) := (bc BK139.out 2).trans rfl) | ((with_reducible refine gate_callee (f := 46) rfl ?_); refine goesL_ (some 8) rfl rfl Try.func46 (by kernel_rfl) rfl #[.agg #[.int .i64 a0_0, .int .i64 a0_1, .string a0_2], .int .i64 a1] rfl (by (try simp only [List.map_toArray, List.map_cons, List.map_nil]); first | done | rfl | (simp only [List.length_drop, List.length_take]; rfl)) ?_; (with_reducible refine (laws_szGrid.calls a0_0 a0_1 a0_2 a1 t140 _ A3.out).mono ?_); rintro e w7 ⟨rfl, hb⟩; refine ⟨_, rfl, ?_⟩; have n0_ := Aside0.mk (bb (g := gb139) (by first | (with_reducible exact BK139.out) | (with_reducible exact bN BK139.out _) | (with_reducible exact bd BK139.out) | ((with_reducible repeat first | apply bN | apply bd | apply ba); exact BK139.out)) hb); have n1_ := Aside0.mk (below_step (by repeat (first | (with_reducible first | exact HB.out | apply wa | apply wN | apply wd | refine ws ?_ GE139.out) | exact HB.out)) hb); clear BK139; clear HB; have BK139 := n0_; have HB := n1_; clear n0_ n1_; (try clear hb); (try clear hb2); (try clear hk); (try clear hi)))
    go_ret
    exact ⟨by first | rfl | (simp [errW_none, errW_some] <;> rfl) | (simp [*, errW_none, errW_some] <;> rfl), by repeat (first | (with_reducible first | exact HB.out | apply wa | apply wN | apply wd | refine ws ?_ GE139.out) | exact HB.out)⟩
  rw [if_neg c4] at H
  have c4b0 : decide (t140 < 0) = false := decide_eq_false c4
  clear c4
  obtain rfl := Option.some.inj H
  go_enter Try.func9, Try.ntmps9
  go_wp2_with (first | ((with_reducible refine gate_dst (N := 2) rfl ?_); refine box_event ?hg (N := 2) ?hd (cs := #[.int .i64 a0_0, .int .i64 a0_1, .string a0_2, .int .i64 a0_3, .int .i64 a0_4, .int .i64 a0_5, .int .i64 a0_6]) (t := 25) ?hr ?_; (case hd => rfl); (case hg => rfl); (case hr => first | (go_simp; done) | (go_simp; rfl)); intro gb139 hg w8 hbox hb; have n0_ := Aside0.mk (below_step (by repeat (first | (with_reducible first | exact HB.out | apply wa | apply wN | apply wd) | exact HB.out)) hb); have n1_ := Aside0.mk (hbox); have n2_ := Aside0.mk ((by rw [hg]; exact (below_size (by repeat (first | (with_reducible first | exact HB.out | apply wa | apply wN | apply wd) | exact HB.out))) : w.heap.size ≤ gb139)); have n3_ := n2_; clear HB; have HB := n0_; have BK139 := n1_; have GW139 := n2_; have GE139 := n3_; clear n0_ n1_ n2_ n3_; clear hb hbox hg; have hcz9_0 : w8.cell? ⟨gb139, 0, none⟩ = some (.int .i64 a0_0) := (bc BK139.out 0).trans rfl; have hcz9_1 : w8.cell? ⟨gb139, 1, none⟩ = some (.int .i64 a0_1) := (bc BK139.out 1).trans rfl; have hcz9_2 : w8.cell? ⟨gb139, 2, none⟩ = some (.string a0_2) := (bc BK139.out 2).trans rfl) | ((with_reducible refine gate_callee (f := 46) rfl ?_); refine goesL_ (some 8) rfl rfl Try.func46 (by kernel_rfl) rfl #[.agg #[.int .i64 a0_0, .int .i64 a0_1, .string a0_2], .int .i64 a1] rfl (by (try simp only [List.map_toArray, List.map_cons, List.map_nil]); first | done | rfl | (simp only [List.length_drop, List.length_take]; rfl)) ?_; (with_reducible refine (laws_szGrid.calls a0_0 a0_1 a0_2 a1 t140 _ A3.out).mono ?_); rintro e w10 ⟨rfl, hb⟩; refine ⟨_, rfl, ?_⟩; have n0_ := Aside0.mk (bb (g := gb139) (by first | (with_reducible exact BK139.out) | (with_reducible exact bN BK139.out _) | (with_reducible exact bd BK139.out) | ((with_reducible repeat first | apply bN | apply bd | apply ba); exact BK139.out)) hb); have n1_ := Aside0.mk (below_step (by repeat (first | (with_reducible first | exact HB.out | apply wa | apply wN | apply wd | refine ws ?_ GE139.out) | exact HB.out)) hb); clear BK139; clear HB; have BK139 := n0_; have HB := n1_; clear n0_ n1_; (try clear hb); (try clear hb2); (try clear hk); (try clear hi)))
  go_ret
  exact ⟨by first | rfl | (simp [errW_none, errW_some] <;> rfl) | (simp [*, errW_none, errW_some] <;> rfl), by repeat (first | (with_reducible first | exact HB.out | apply wa | apply wN | apply wd | refine ws ?_ GE139.out) | exact HB.out)⟩

/-! ### laws_szRobotS: function 65 -/
def laws_szRobotS.f (l0 : List (S153)) (a1 : Int) : Option (Int) := if (wrap64 (a1 - (l0.length : Int))) < 0 then (some (-1)) else (some (wrap64 (a1 - (l0.length : Int))))
set_option maxHeartbeats 8000000 in
set_option maxRecDepth 100000 in
theorem laws_szRobotS.calls (A0 : Option Addr) (c0 : Nat) (l0 : List (S153)) (a1 : Int) (r : Int) (w : World) (hr0 : Kd.C k153 w A0 l0.length l0) (hc0 : l0.length ≤ c0) (h : laws_szRobotS.f l0 a1 = some r) :
    Calls Try.prog 65 #[.slice A0 l0.length c0, .int .i64 a1] w fun e w' => e = .returned (.int .i64 r) ∧ Drawn0 w w' := by
  have HR0 := Aside0.mk hr0
  have HC0 := Aside0.mk hc0
  clear hr0 hc0
  have H : (if (wrap64 (a1 - (l0.length : Int))) < 0 then (some (-1)) else (some (wrap64 (a1 - (l0.length : Int))))) = some r := h
  clear h
  by_cases c3 : (wrap64 (a1 - (l0.length : Int))) < 0
  · rw [if_pos c3] at H
    have c3b0 : decide ((wrap64 (a1 - (l0.length : Int))) < 0) = true := decide_eq_true c3
    clear c3
    obtain rfl := Option.some.inj H
    go_enter Try.func65, Try.ntmps65
    go_wp2
    go_ret
    exact ⟨by first | rfl | (simp; done) | (simp [*]; done), by repeat (first | exact Drawn0.refl _ | apply Drawn0.step)⟩
  rw [if_neg c3] at H
  have c3b0 : decide ((wrap64 (a1 - (l0.length : Int))) < 0) = false := decide_eq_false c3
  clear c3
  obtain rfl := Option.some.inj H
  go_enter Try.func65, Try.ntmps65
  go_wp2
  go_ret
  exact ⟨by first | rfl | (simp; done) | (simp [*]; done), by repeat (first | exact Drawn0.refl _ | apply Drawn0.step)⟩

/-! ### laws_szIntS: function 69 -/
def laws_szIntS.f (l0 : List Int) (a1 : Int) : Option (Int) := if (wrap64 (a1 - (l0.length : Int))) < 0 then (some (-1)) else (some (wrap64 (a1 - (l0.length : Int))))
set_option maxHeartbeats 8000000 in
set_option maxRecDepth 100000 in
theorem laws_szIntS.calls (A0 : Option Addr) (c0 : Nat) (l0 : List Int) (a1 : Int) (r : Int) (w : World) (hr0 : Kd.C (Kd.int .i64) w A0 l0.length l0) (hc0 : l0.length ≤ c0) (h : laws_szIntS.f l0 a1 = some r) :
    Calls Try.prog 69 #[.slice A0 l0.length c0, .int .i64 a1] w fun e w' => e = .returned (.int .i64 r) ∧ Drawn0 w w' := by
  have HR0 := Aside0.mk hr0
  have HC0 := Aside0.mk hc0
  clear hr0 hc0
  have H : (if (wrap64 (a1 - (l0.length : Int))) < 0 then (some (-1)) else (some (wrap64 (a1 - (l0.length : Int))))) = some r := h
  clear h
  by_cases c3 : (wrap64 (a1 - (l0.length : Int))) < 0
  · rw [if_pos c3] at H
    have c3b0 : decide ((wrap64 (a1 - (l0.length : Int))) < 0) = true := decide_eq_true c3
    clear c3
    obtain rfl := Option.some.inj H
    go_enter Try.func69, Try.ntmps69
    go_wp2
    go_ret
    exact ⟨by first | rfl | (simp; done) | (simp [*]; done), by repeat (first | exact Drawn0.refl _ | apply Drawn0.step)⟩
  rw [if_neg c3] at H
  have c3b0 : decide ((wrap64 (a1 - (l0.length : Int))) < 0) = false := decide_eq_false c3
  clear c3
  obtain rfl := Option.some.inj H
  go_enter Try.func69, Try.ntmps69
  go_wp2
  go_ret
  exact ⟨by first | rfl | (simp; done) | (simp [*]; done), by repeat (first | exact Drawn0.refl _ | apply Drawn0.step)⟩

/-! ### laws_szWindow: function 66 -/
def laws_szWindow.f (a0_0 : Int) (a0_1 : Int) (l0_2 : List Int) (a1 : Int) : Option (Int) := (laws_szIntS.f l0_2 a1).bind fun t142 => (if t142 < 0 then (some (-1)) else (some t142))
set_option maxHeartbeats 8000000 in
set_option maxRecDepth 100000 in
theorem laws_szWindow.calls (a0_0 : Int) (a0_1 : Int) (A0_2 : Option Addr) (c0_2 : Nat) (l0_2 : List Int) (a1 : Int) (r : Int) (w : World) (hr0_2 : Kd.C (Kd.int .i64) w A0_2 l0_2.length l0_2) (hc0_2 : l0_2.length ≤ c0_2) (h : laws_szWindow.f a0_0 a0_1 l0_2 a1 = some r) :
    Calls Try.prog 66 #[.agg #[.int .i64 a0_0, .int .i64 a0_1, .slice A0_2 l0_2.length c0_2], .int .i64 a1] w fun e w' => e = .returned (.int .i64 r) ∧ Below w.heap.size w w' := by
  have hu47 := Try.underlying47
  have HR0_2 := Aside0.mk hr0_2
  have HC0_2 := Aside0.mk hc0_2
  clear hr0_2 hc0_2
  have HB := Aside0.mk (Below.refl w.heap.size w)
  have H : ((laws_szIntS.f l0_2 a1).bind fun t142 => (if t142 < 0 then (some (-1)) else (some t142))) = some r := h
  clear h
  replace H := Option.bind_eq_some_iff.mp H
  obtain ⟨t142, A30, H⟩ := H
  try dsimp only at H
  have A3 := Aside0.mk A30
  clear A30
  by_cases c4 : t142 < 0
  · rw [if_pos c4] at H
    have c4b0 : decide (t142 < 0) = true := decide_eq_true c4
    clear c4
    obtain rfl := Option.some.inj H
    go_enter Try.func66, Try.ntmps66
    go_wp2_with (first | ((with_reducible refine gate_dst (N := 2) rfl ?_); refine box_event ?hg (N := 2) ?hd (cs := #[.int .i64 a0_0, .int .i64 a0_1, .slice A0_2 l0_2.length c0_2]) (t := 47) ?hr ?_; (case hd => rfl); (case hg => rfl); (case hr => first | (go_simp; done) | (go_simp; rfl)); intro gb141 hg w5 hbox hb; have n0_ := Aside0.mk (below_step (by repeat (first | (with_reducible first | exact HB.out | apply wa | apply wN | apply wd) | exact HB.out)) hb); have n1_ := Aside0.mk (hbox); have n2_ := Aside0.mk ((by rw [hg]; exact (below_size (by repeat (first | (with_reducible first | exact HB.out | apply wa | apply wN | apply wd) | exact HB.out))) : w.heap.size ≤ gb141)); have n3_ := n2_; clear HB; have HB := n0_; have BK141 := n1_; have GW141 := n2_; have GE141 := n3_; clear n0_ n1_ n2_ n3_; clear hb hbox hg; have hcz6_2 : w5.cell? ⟨gb141, 2, none⟩ = some (.slice A0_2 l0_2.length c0_2) := (bc BK141.out 2).trans rfl) | ((with_reducible refine gate_callee (f := 69) rfl ?_); refine goesL_ (some 8) rfl rfl Try.func69 (by kernel_rfl) rfl #[.slice A0_2 l0_2.length c0_2, .int .i64 a1] rfl (by (try simp only [List.map_toArray, List.map_cons, List.map_nil]); first | done | rfl | (simp only [List.length_drop, List.length_take]; rfl)) ?_; (with_reducible refine (laws_szIntS.calls _ _ l0_2 a1 t142 _ ?side1 ?side2 A3.out).mono ?_); (case side1 => repeat (first | exact (Kd.C_below HR0_2.out HB.out) | (with_reducible refine Kd.Ca ?_ _) | (with_reducible refine Kd.Cn ?_ _) | (with_reducible refine Kd.Cd ?_))); (case side2 => exact HC0_2.out); rintro e w' ⟨rfl, ⟨nd, rfl⟩⟩; refine ⟨_, rfl, ?_⟩))
    go_ret
    exact ⟨by first | rfl | (simp [errW_none, errW_some] <;> rfl) | (simp [*, errW_none, errW_some] <;> rfl), by repeat (first | (with_reducible first | exact HB.out | apply wa | apply wN | apply wd | refine ws ?_ GE141.out) | exact HB.out)⟩
  rw [if_neg c4] at H
  have c4b0 : decide (t142 < 0) = false := decide_eq_false c4
  clear c4
  obtain rfl := Option.some.inj H
  go_enter Try.func66, Try.ntmps66
  go_wp2_with (first | ((with_reducible refine gate_dst (N := 2) rfl ?_); refine box_event ?hg (N := 2) ?hd (cs := #[.int .i64 a0_0, .int .i64 a0_1, .slice A0_2 l0_2.length c0_2]) (t := 47) ?hr ?_; (case hd => rfl); (case hg => rfl); (case hr => first | (go_simp; done) | (go_simp; rfl)); intro gb141 hg w7 hbox hb; have n0_ := Aside0.mk (below_step (by repeat (first | (with_reducible first | exact HB.out | apply wa | apply wN | apply wd) | exact HB.out)) hb); have n1_ := Aside0.mk (hbox); have n2_ := Aside0.mk ((by rw [hg]; exact (below_size (by repeat (first | (with_reducible first | exact HB.out | apply wa | apply wN | apply wd) | exact HB.out))) : w.heap.size ≤ gb141)); have n3_ := n2_; clear HB; have HB := n0_; have BK141 := n1_; have GW141 := n2_; have GE141 := n3_; clear n0_ n1_ n2_ n3_; clear hb hbox hg; have hcz8_2 : w7.cell? ⟨gb141, 2, none⟩ = some (.slice A0_2 l0_2.length c0_2) := (bc BK141.out 2).trans rfl) | ((with_reducible refine gate_callee (f := 69) rfl ?_); refine goesL_ (some 8) rfl rfl Try.func69 (by kernel_rfl) rfl #[.slice A0_2 l0_2.length c0_2, .int .i64 a1] rfl (by (try simp only [List.map_toArray, List.map_cons, List.map_nil]); first | done | rfl | (simp only [List.length_drop, List.length_take]; rfl)) ?_; (with_reducible refine (laws_szIntS.calls _ _ l0_2 a1 t142 _ ?side1 ?side2 A3.out).mono ?_); (case side1 => repeat (first | exact (Kd.C_below HR0_2.out HB.out) | (with_reducible refine Kd.Ca ?_ _) | (with_reducible refine Kd.Cn ?_ _) | (with_reducible refine Kd.Cd ?_))); (case side2 => exact HC0_2.out); rintro e w' ⟨rfl, ⟨nd, rfl⟩⟩; refine ⟨_, rfl, ?_⟩))
  go_ret
  exact ⟨by first | rfl | (simp [errW_none, errW_some] <;> rfl) | (simp [*, errW_none, errW_some] <;> rfl), by repeat (first | (with_reducible first | exact HB.out | apply wa | apply wN | apply wd | refine ws ?_ GE141.out) | exact HB.out)⟩

/-! ### laws_szWay: function 150 -/
def laws_szWay.f (l0_0 : List Int) (a1 : Int) : Option (Int) := (laws_szIntS.f l0_0 a1).bind fun t144 => (if t144 < 0 then (some (-1)) else (some t144))
set_option maxHeartbeats 8000000 in
set_option maxRecDepth 100000 in
theorem laws_szWay.calls (A0_0 : Option Addr) (c0_0 : Nat) (l0_0 : List Int) (a1 : Int) (r : Int) (w : World) (hr0_0 : Kd.C (Kd.int .i64) w A0_0 l0_0.length l0_0) (hc0_0 : l0_0.length ≤ c0_0) (h : laws_szWay.f l0_0 a1 = some r) :
    Calls Try.prog 150 #[.agg #[.slice A0_0 l0_0.length c0_0], .int .i64 a1] w fun e w' => e = .returned (.int .i64 r) ∧ Below w.heap.size w w' := by
  have hu185 := Try.underlying185
  have HR0_0 := Aside0.mk hr0_0
  have HC0_0 := Aside0.mk hc0_0
  clear hr0_0 hc0_0
  have HB := Aside0.mk (Below.refl w.heap.size w)
  have H : ((laws_szIntS.f l0_0 a1).bind fun t144 => (if t144 < 0 then (some (-1)) else (some t144))) = some r := h
  clear h
  replace H := Option.bind_eq_some_iff.mp H
  obtain ⟨t144, A30, H⟩ := H
  try dsimp only at H
  have A3 := Aside0.mk A30
  clear A30
  by_cases c4 : t144 < 0
  · rw [if_pos c4] at H
    have c4b0 : decide (t144 < 0) = true := decide_eq_true c4
    clear c4
    obtain rfl := Option.some.inj H
    go_enter Try.func150, Try.ntmps150
    go_wp2_with (first | ((with_reducible refine gate_dst (N := 2) rfl ?_); refine box_event ?hg (N := 2) ?hd (cs := #[.slice A0_0 l0_0.length c0_0]) (t := 185) ?hr ?_; (case hd => rfl); (case hg => rfl); (case hr => first | (go_simp; done) | (go_simp; rfl)); intro gb143 hg w5 hbox hb; have n0_ := Aside0.mk (below_step (by repeat (first | (with_reducible first | exact HB.out | apply wa | apply wN | apply wd) | exact HB.out)) hb); have n1_ := Aside0.mk (hbox); have n2_ := Aside0.mk ((by rw [hg]; exact (below_size (by repeat (first | (with_reducible first | exact HB.out | apply wa | apply wN | apply wd) | exact HB.out))) : w.heap.size ≤ gb143)); have n3_ := n2_; clear HB; have HB := n0_; have BK143 := n1_; have GW143 := n2_; have GE143 := n3_; clear n0_ n1_ n2_ n3_; clear hb hbox hg; have hcz6_0 : w5.cell? ⟨gb143, 0, none⟩ = some (.slice A0_0 l0_0.length c0_0) := (bc BK143.out 0).trans rfl) | ((with_reducible refine gate_callee (f := 69) rfl ?_); refine goesL_ (some 8) rfl rfl Try.func69 (by kernel_rfl) rfl #[.slice A0_0 l0_0.length c0_0, .int .i64 a1] rfl (by (try simp only [List.map_toArray, List.map_cons, List.map_nil]); first | done | rfl | (simp only [List.length_drop, List.length_take]; rfl)) ?_; (with_reducible refine (laws_szIntS.calls _ _ l0_0 a1 t144 _ ?side1 ?side2 A3.out).mono ?_); (case side1 => repeat (first | exact (Kd.C_below HR0_0.out HB.out) | (with_reducible refine Kd.Ca ?_ _) | (with_reducible refine Kd.Cn ?_ _) | (with_reducible refine Kd.Cd ?_))); (case side2 => exact HC0_0.out); rintro e w' ⟨rfl, ⟨nd, rfl⟩⟩; refine ⟨_, rfl, ?_⟩))
    go_ret
    exact ⟨by first | rfl | (simp [errW_none, errW_some] <;> rfl) | (simp [*, errW_none, errW_some] <;> rfl), by repeat (first | (with_reducible first | exact HB.out | apply wa | apply wN | apply wd | refine ws ?_ GE143.out) | exact HB.out)⟩
  rw [if_neg c4] at H
  have c4b0 : decide (t144 < 0) = false := decide_eq_false c4
  clear c4
  obtain rfl := Option.some.inj H
  go_enter Try.func150, Try.ntmps150
  go_wp2_with (first | ((with_reducible refine gate_dst (N := 2) rfl ?_); refine box_event ?hg (N := 2) ?hd (cs := #[.slice A0_0 l0_0.length c0_0]) (t := 185) ?hr ?_; (case hd => rfl); (case hg => rfl); (case hr => first | (go_simp; done) | (go_simp; rfl)); intro gb143 hg w7 hbox hb; have n0_ := Aside0.mk (below_step (by repeat (first | (with_reducible first | exact HB.out | apply wa | apply wN | apply wd) | exact HB.out)) hb); have n1_ := Aside0.mk (hbox); have n2_ := Aside0.mk ((by rw [hg]; exact (below_size (by repeat (first | (with_reducible first | exact HB.out | apply wa | apply wN | apply wd) | exact HB.out))) : w.heap.size ≤ gb143)); have n3_ := n2_; clear HB; have HB := n0_; have BK143 := n1_; have GW143 := n2_; have GE143 := n3_; clear n0_ n1_ n2_ n3_; clear hb hbox hg; have hcz8_0 : w7.cell? ⟨gb143, 0, none⟩ = some (.slice A0_0 l0_0.length c0_0) := (bc BK143.out 0).trans rfl) | ((with_reducible refine gate_callee (f := 69) rfl ?_); refine goesL_ (some 8) rfl rfl Try.func69 (by kernel_rfl) rfl #[.slice A0_0 l0_0.length c0_0, .int .i64 a1] rfl (by (try simp only [List.map_toArray, List.map_cons, List.map_nil]); first | done | rfl | (simp only [List.length_drop, List.length_take]; rfl)) ?_; (with_reducible refine (laws_szIntS.calls _ _ l0_0 a1 t144 _ ?side1 ?side2 A3.out).mono ?_); (case side1 => repeat (first | exact (Kd.C_below HR0_0.out HB.out) | (with_reducible refine Kd.Ca ?_ _) | (with_reducible refine Kd.Cn ?_ _) | (with_reducible refine Kd.Cd ?_))); (case side2 => exact HC0_0.out); rintro e w' ⟨rfl, ⟨nd, rfl⟩⟩; refine ⟨_, rfl, ?_⟩))
  go_ret
  exact ⟨by first | rfl | (simp [errW_none, errW_some] <;> rfl) | (simp [*, errW_none, errW_some] <;> rfl), by repeat (first | (with_reducible first | exact HB.out | apply wa | apply wN | apply wd | refine ws ?_ GE143.out) | exact HB.out)⟩

end Go.Proofs.Ytfinjkjnoobbjaa.MFnExactSafeYard
