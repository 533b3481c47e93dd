/- Made by a program of this session (out of the kit's print, with hand-made contracts): what each Go function that the law reaches computes, and that the machine's call does so. -/
import Derived.Test.YtfinjkjnoobbjaaXFnExactJobsOkMyReg
import Derived.Test.YtfinjkjnoobbjaaXFnExactJobsOkMyHof
import Derived.Test.YtfinjkjnoobbjaaMFnExactJobsOkx0
import Derived.Test.YtfinjkjnoobbjaaMFnExactJobsOkx7
import Derived.Test.YtfinjkjnoobbjaaMFnExactJobsOkx9
namespace Go.Proofs.Ytfinjkjnoobbjaa.MFnExactJobsOk
open Go.RowKit Go.Proofs.YtfinjkjnoobbjaaW.PrintWords Go.Proofs.YtfinjkjnoobbjaaW.PrintLast Go.Proofs.YtfinjkjnoobbjaaW.PrintMore Go.Proofs.Ytfinjkjnoobbjaa.MyReg
attribute [local go_sem] max2_int min2_int max_two min_two max_three min_three max_four min_four   -- for this text's walks alone
set_option linter.unusedVariables false
set_option linter.unusedSimpArgs false

/-! ### spec_JobsOk: function 17 -/
def spec_JobsOk.f (k : Nat) (a0_0 : Int) (a0_1 : Int) (a0_2 : ByteArray) (a0_3 : Int) (a0_4 : Int) (a0_5 : Int) (a0_6 : Int) (l0_7 : List (S84)) (a0_8 : Int) (a0_9 : Int) (l0_10 : List Int) (a0_11 : Int) (a0_12 : Bool) (a0_13 : Int) (a0_14 : Int) (l0_15 : List (S143)) (l0_16 : List (S141)) (l0_17 : List Int) : Option (Bool) := if a0_12 = true then ((spec_l21Jobs.f k a0_0 a0_1 a0_2 a0_3 a0_4 a0_5 a0_6 l0_7 a0_8 a0_9 l0_10 a0_11 a0_12 a0_13 a0_14 l0_15 l0_16 l0_17).bind fun t179 => (if t179 = true then ((spec_LayerOf.f k a0_0 a0_1 a0_2 a0_3 a0_4 a0_5 a0_6 l0_7 a0_8 a0_9 l0_10 a0_11 a0_12 a0_13 a0_14 l0_15 l0_16 l0_17).bind fun t180 => (some (decide (t180 < a0_13)))) else (some false))) else (if a0_13 = 0 then (if a0_14 = 0 then (if (l0_15.length : Int) = 0 then (some ((l0_16.length : Int) == 0)) else (some false)) else (some false)) else (some false))
theorem spec_JobsOk.mono : ∀ a0 a1 a2 a3 a4 a5 a6 a7 a8 a9 a10 a11 a12 a13 a14 a15 a16 a17 k, LeO (spec_JobsOk.f k a0 a1 a2 a3 a4 a5 a6 a7 a8 a9 a10 a11 a12 a13 a14 a15 a16 a17) (spec_JobsOk.f (k + 1) a0 a1 a2 a3 a4 a5 a6 a7 a8 a9 a10 a11 a12 a13 a14 a15 a16 a17) := by
  intro a0 a1 a2 a3 a4 a5 a6 a7 a8 a9 a10 a11 a12 a13 a14 a15 a16 a17 k
  unfold spec_JobsOk.f
  repeat' first
      | (with_reducible exact spec_LayerOf.mono _ _ _ _ _ _ _ _ _ _ _ _ _ _ _ _ _ _ _)
      | (with_reducible exact spec_l21Jobs.mono _ _ _ _ _ _ _ _ _ _ _ _ _ _ _ _ _ _ _)
      | (with_reducible exact LeO.refl _)
      | (with_reducible exact LeO.none _)
      | (with_reducible refine LeO.ite ?_ ?_)
      | (with_reducible refine LeO.bind ?_ (fun _ => ?_))
      | exact spec_LayerOf.mono _ _ _ _ _ _ _ _ _ _ _ _ _ _ _ _ _ _ _
      | exact spec_l21Jobs.mono _ _ _ _ _ _ _ _ _ _ _ _ _ _ _ _ _ _ _
      | exact LeO.none _
      | refine LeO.ite ?_ ?_
      | refine LeO.bind ?_ (fun _ => ?_)
def spec_JobsOk.T3 : Bool × List (List Nat × List Nat) := (true, [([], []), ([0], [0]), ([1, 1], [1]), ([2], [2]), ([3, 2, 2], [2, 3]), ([2], [2]), ([5, 2], [2, 5]), ([6, 2], [2, 6]), ([4, 7, 2], [2, 4, 7]), ([2, 8], [2, 8]), ([9, 4, 0, 1, 2, 3, 4, 5, 6, 7, 8, 9], [9])])
def spec_JobsOk.B3 : List Nat := [0, 1, 3, 7, 15, 7, 39, 103, 255, 511, 1023]
theorem spec_JobsOk.tab3 : rtab .any (opsOf Try.f17 3) = spec_JobsOk.T3 := by kernel_rfl
theorem spec_JobsOk.bits3 : waitsOk spec_JobsOk.T3.2 spec_JobsOk.B3 = true := by kernel_rfl
set_option maxHeartbeats 8000000 in
set_option maxRecDepth 100000 in
theorem spec_JobsOk.calls (k : Nat) (a0_0 : Int) (a0_1 : Int) (a0_2 : ByteArray) (a0_3 : Int) (a0_4 : Int) (a0_5 : Int) (a0_6 : Int) (A0_7 : Option Addr) (c0_7 : Nat) (l0_7 : List (S84)) (a0_8 : Int) (a0_9 : Int) (A0_10 : Option Addr) (c0_10 : Nat) (l0_10 : List Int) (a0_11 : Int) (a0_12 : Bool) (a0_13 : Int) (a0_14 : Int) (A0_15 : Option Addr) (c0_15 : Nat) (l0_15 : List (S143)) (A0_16 : Option Addr) (c0_16 : Nat) (l0_16 : List (S141)) (A0_17 : Option Addr) (c0_17 : Nat) (l0_17 : List Int) (r : Bool) (w : World) (hr0_7 : Kd.C k84 w A0_7 l0_7.length l0_7) (hc0_7 : l0_7.length ≤ c0_7) (hr0_10 : Kd.C (Kd.int .i64) w A0_10 l0_10.length l0_10) (hc0_10 : l0_10.length ≤ c0_10) (hr0_15 : Kd.C k143 w A0_15 l0_15.length l0_15) (hc0_15 : l0_15.length ≤ c0_15) (hr0_16 : Kd.C k141 w A0_16 l0_16.length l0_16) (hc0_16 : l0_16.length ≤ c0_16) (hr0_17 : Kd.C (Kd.int .i64) w A0_17 l0_17.length l0_17) (hc0_17 : l0_17.length ≤ c0_17) (h : spec_JobsOk.f k a0_0 a0_1 a0_2 a0_3 a0_4 a0_5 a0_6 l0_7 a0_8 a0_9 l0_10 a0_11 a0_12 a0_13 a0_14 l0_15 l0_16 l0_17 = some r) :
    Calls Try.prog 17 #[.agg #[.int .i64 a0_0, .int .i64 a0_1, .string a0_2, .int .i64 a0_3, .int .i64 a0_4, .int .i64 a0_5, .int .i64 a0_6, .slice A0_7 l0_7.length c0_7, .int .i64 a0_8, .int .i64 a0_9, .slice A0_10 l0_10.length c0_10, .int .i64 a0_11, .bool a0_12, .int .i64 a0_13, .int .i64 a0_14, .slice A0_15 l0_15.length c0_15, .slice A0_16 l0_16.length c0_16, .slice A0_17 l0_17.length c0_17]] w fun e w' => e = .returned (.bool r) ∧ Below w.heap.size w w' := by
  have hu39 := Try.underlying39
  have HR0_7 := Aside0.mk hr0_7
  have HC0_7 := Aside0.mk hc0_7
  clear hr0_7 hc0_7
  have HR0_10 := Aside0.mk hr0_10
  have HC0_10 := Aside0.mk hc0_10
  clear hr0_10 hc0_10
  have HR0_15 := Aside0.mk hr0_15
  have HC0_15 := Aside0.mk hc0_15
  clear hr0_15 hc0_15
  have HR0_16 := Aside0.mk hr0_16
  have HC0_16 := Aside0.mk hc0_16
  clear hr0_16 hc0_16
  have HR0_17 := Aside0.mk hr0_17
  have HC0_17 := Aside0.mk hc0_17
  clear hr0_17 hc0_17
  have HB := Aside0.mk (Below.refl w.heap.size w)
  have H : (if a0_12 = true then ((spec_l21Jobs.f k a0_0 a0_1 a0_2 a0_3 a0_4 a0_5 a0_6 l0_7 a0_8 a0_9 l0_10 a0_11 a0_12 a0_13 a0_14 l0_15 l0_16 l0_17).bind fun t179 => (if t179 = true then ((spec_LayerOf.f k a0_0 a0_1 a0_2 a0_3 a0_4 a0_5 a0_6 l0_7 a0_8 a0_9 l0_10 a0_11 a0_12 a0_13 a0_14 l0_15 l0_16 l0_17).bind fun t180 => (some (decide (t180 < a0_13)))) else (some false))) else (if a0_13 = 0 then (if a0_14 = 0 then (if (l0_15.length : Int) = 0 then (some ((l0_16.length : Int) == 0)) else (some false)) else (some false)) else (some false))) = some r := h
  clear h
  by_cases c2 : a0_12 = true
  rotate_left
  · replace c2 := Bool.eq_false_iff.mpr c2
    subst c2
    have H1 : (if a0_13 = 0 then (if a0_14 = 0 then (if (l0_15.length : Int) = 0 then (some ((l0_16.length : Int) == 0)) else (some false)) else (some false)) else (some false)) = some r := by rw [if_neg (show ¬ (false = true) by decide)] at H; exact H
    clear H
    have H := H1
    clear H1
    by_cases c15 : a0_13 = 0
    rotate_left
    · rw [if_neg c15] at H
      have c15b0 : (a0_13 == 0) = false := beq_eq_false_iff_ne.mpr c15
      have c15b1 : (a0_13 != 0) = true := bne_iff_ne.mpr c15
      obtain rfl := Option.some.inj H
      go_enter Try.func17, Try.ntmps17
      go_wp2_with (first | ((with_reducible refine gate_dst (N := 1) rfl ?_); (try (refine gate_guard (by rfl) ?_; dsimp only)); refine box_event ?hg (N := 1) ?hd (cs := #[.int .i64 a0_0, .int .i64 a0_1, .string a0_2, .int .i64 a0_3, .int .i64 a0_4, .int .i64 a0_5, .int .i64 a0_6, .slice A0_7 l0_7.length c0_7, .int .i64 a0_8, .int .i64 a0_9, .slice A0_10 l0_10.length c0_10, .int .i64 a0_11, .bool false, .int .i64 a0_13, .int .i64 a0_14, .slice A0_15 l0_15.length c0_15, .slice A0_16 l0_16.length c0_16, .slice A0_17 l0_17.length c0_17]) (t := 39) ?hr ?_; (case hd => rfl); (case hg => rfl); (case hr => first | (go_simp; done) | (go_simp; rfl)); intro gb178 hg w24 hbox hb; have n0_ := Aside0.mk (below_step (by repeat (first | (with_reducible first | exact HB.out | apply wa | apply wN | apply wd) | exact HB.out)) hb); have n1_ := Aside0.mk (hbox); have n2_ := Aside0.mk ((by rw [hg]; exact (below_size (by repeat (first | (with_reducible first | exact HB.out | apply wa | apply wN | apply wd) | exact HB.out))) : w.heap.size ≤ gb178)); have n3_ := n2_; clear HB; have HB := n0_; have BK178 := n1_; have GW178 := n2_; have GE178 := n3_; clear n0_ n1_ n2_ n3_; clear hb hbox hg; have hcz25_12 : w24.cell? ⟨gb178, 12, none⟩ = some (.bool false) := (bc BK178.out 12).trans rfl; have hcz25_13 : w24.cell? ⟨gb178, 13, none⟩ = some (.int .i64 a0_13) := (bc BK178.out 13).trans rfl; have hcz25_14 : w24.cell? ⟨gb178, 14, none⟩ = some (.int .i64 a0_14) := (bc BK178.out 14).trans rfl; have hcz25_15 : w24.cell? ⟨gb178, 15, none⟩ = some (.slice A0_15 l0_15.length c0_15) := (bc BK178.out 15).trans rfl; have hcz25_16 : w24.cell? ⟨gb178, 16, none⟩ = some (.slice A0_16 l0_16.length c0_16) := (bc BK178.out 16).trans rfl) | ((with_reducible refine gate_dst (N := 29) rfl ?_); refine wpList_load_row (P := Try.prog) rfl _ _ rfl gb178 ?hx _ _ _ _ (by (with_reducible repeat first | apply bN | apply bd | apply ba); with_reducible exact BK178.out) Try.underlying39 rfl (by kernel_rfl) ?_; (case hx => first | rfl | (go_simp; done))) | ((with_reducible refine gate_dst (N := 32) rfl ?_); refine wpList_load_row (P := Try.prog) rfl _ _ rfl gb178 ?hx _ _ _ _ (by (with_reducible repeat first | apply bN | apply bd | apply ba); with_reducible exact BK178.out) Try.underlying39 rfl (by kernel_rfl) ?_; (case hx => first | rfl | (go_simp; done))))
      go_ret
      exact ⟨by first | rfl | (simp [errW_none, errW_some] <;> rfl) | (simp [*, errW_none, errW_some] <;> rfl), by repeat (first | (with_reducible first | exact HB.out | apply wa | apply wN | apply wd | refine ws ?_ GE178.out) | exact HB.out)⟩
    rw [if_pos c15] at H
    have c15b0 : (a0_13 == 0) = true := beq_iff_eq.mpr c15
    have c15b1 : (a0_13 != 0) = false := bne_eq_false_iff_eq.mpr c15
    clear c15
    by_cases c16 : a0_14 = 0
    rotate_left
    · rw [if_neg c16] at H
      have c16b0 : (a0_14 == 0) = false := beq_eq_false_iff_ne.mpr c16
      have c16b1 : (a0_14 != 0) = true := bne_iff_ne.mpr c16
      obtain rfl := Option.some.inj H
      go_enter Try.func17, Try.ntmps17
      go_wp2_with (first | ((with_reducible refine gate_dst (N := 1) rfl ?_); (try (refine gate_guard (by rfl) ?_; dsimp only)); refine box_event ?hg (N := 1) ?hd (cs := #[.int .i64 a0_0, .int .i64 a0_1, .string a0_2, .int .i64 a0_3, .int .i64 a0_4, .int .i64 a0_5, .int .i64 a0_6, .slice A0_7 l0_7.length c0_7, .int .i64 a0_8, .int .i64 a0_9, .slice A0_10 l0_10.length c0_10, .int .i64 a0_11, .bool false, .int .i64 a0_13, .int .i64 a0_14, .slice A0_15 l0_15.length c0_15, .slice A0_16 l0_16.length c0_16, .slice A0_17 l0_17.length c0_17]) (t := 39) ?hr ?_; (case hd => rfl); (case hg => rfl); (case hr => first | (go_simp; done) | (go_simp; rfl)); intro gb178 hg w22 hbox hb; have n0_ := Aside0.mk (below_step (by repeat (first | (with_reducible first | exact HB.out | apply wa | apply wN | apply wd) | exact HB.out)) hb); have n1_ := Aside0.mk (hbox); have n2_ := Aside0.mk ((by rw [hg]; exact (below_size (by repeat (first | (with_reducible first | exact HB.out | apply wa | apply wN | apply wd) | exact HB.out))) : w.heap.size ≤ gb178)); have n3_ := n2_; clear HB; have HB := n0_; have BK178 := n1_; have GW178 := n2_; have GE178 := n3_; clear n0_ n1_ n2_ n3_; clear hb hbox hg; have hcz23_12 : w22.cell? ⟨gb178, 12, none⟩ = some (.bool false) := (bc BK178.out 12).trans rfl; have hcz23_13 : w22.cell? ⟨gb178, 13, none⟩ = some (.int .i64 a0_13) := (bc BK178.out 13).trans rfl; have hcz23_14 : w22.cell? ⟨gb178, 14, none⟩ = some (.int .i64 a0_14) := (bc BK178.out 14).trans rfl; have hcz23_15 : w22.cell? ⟨gb178, 15, none⟩ = some (.slice A0_15 l0_15.length c0_15) := (bc BK178.out 15).trans rfl; have hcz23_16 : w22.cell? ⟨gb178, 16, none⟩ = some (.slice A0_16 l0_16.length c0_16) := (bc BK178.out 16).trans rfl) | ((with_reducible refine gate_dst (N := 29) rfl ?_); refine wpList_load_row (P := Try.prog) rfl _ _ rfl gb178 ?hx _ _ _ _ (by (with_reducible repeat first | apply bN | apply bd | apply ba); with_reducible exact BK178.out) Try.underlying39 rfl (by kernel_rfl) ?_; (case hx => first | rfl | (go_simp; done))) | ((with_reducible refine gate_dst (N := 32) rfl ?_); refine wpList_load_row (P := Try.prog) rfl _ _ rfl gb178 ?hx _ _ _ _ (by (with_reducible repeat first | apply bN | apply bd | apply ba); with_reducible exact BK178.out) Try.underlying39 rfl (by kernel_rfl) ?_; (case hx => first | rfl | (go_simp; done))))
      go_ret
      exact ⟨by first | rfl | (simp [errW_none, errW_some] <;> rfl) | (simp [*, errW_none, errW_some] <;> rfl), by repeat (first | (with_reducible first | exact HB.out | apply wa | apply wN | apply wd | refine ws ?_ GE178.out) | exact HB.out)⟩
    rw [if_pos c16] at H
    have c16b0 : (a0_14 == 0) = true := beq_iff_eq.mpr c16
    have c16b1 : (a0_14 != 0) = false := bne_eq_false_iff_eq.mpr c16
    clear c16
    by_cases c17 : (l0_15.length : Int) = 0
    · rw [if_pos c17] at H
      have c17b0 : ((l0_15.length : Int) == 0) = true := beq_iff_eq.mpr c17
      have c17b1 : ((l0_15.length : Int) != 0) = false := bne_eq_false_iff_eq.mpr c17
      clear c17
      obtain rfl := Option.some.inj H
      go_enter Try.func17, Try.ntmps17
      go_wp2_with (first | ((with_reducible refine gate_dst (N := 1) rfl ?_); (try (refine gate_guard (by rfl) ?_; dsimp only)); refine box_event ?hg (N := 1) ?hd (cs := #[.int .i64 a0_0, .int .i64 a0_1, .string a0_2, .int .i64 a0_3, .int .i64 a0_4, .int .i64 a0_5, .int .i64 a0_6, .slice A0_7 l0_7.length c0_7, .int .i64 a0_8, .int .i64 a0_9, .slice A0_10 l0_10.length c0_10, .int .i64 a0_11, .bool false, .int .i64 a0_13, .int .i64 a0_14, .slice A0_15 l0_15.length c0_15, .slice A0_16 l0_16.length c0_16, .slice A0_17 l0_17.length c0_17]) (t := 39) ?hr ?_; (case hd => rfl); (case hg => rfl); (case hr => first | (go_simp; done) | (go_simp; rfl)); intro gb178 hg w18 hbox hb; have n0_ := Aside0.mk (below_step (by repeat (first | (with_reducible first | exact HB.out | apply wa | apply wN | apply wd) | exact HB.out)) hb); have n1_ := Aside0.mk (hbox); have n2_ := Aside0.mk ((by rw [hg]; exact (below_size (by repeat (first | (with_reducible first | exact HB.out | apply wa | apply wN | apply wd) | exact HB.out))) : w.heap.size ≤ gb178)); have n3_ := n2_; clear HB; have HB := n0_; have BK178 := n1_; have GW178 := n2_; have GE178 := n3_; clear n0_ n1_ n2_ n3_; clear hb hbox hg; have hcz19_12 : w18.cell? ⟨gb178, 12, none⟩ = some (.bool false) := (bc BK178.out 12).trans rfl; have hcz19_13 : w18.cell? ⟨gb178, 13, none⟩ = some (.int .i64 a0_13) := (bc BK178.out 13).trans rfl; have hcz19_14 : w18.cell? ⟨gb178, 14, none⟩ = some (.int .i64 a0_14) := (bc BK178.out 14).trans rfl; have hcz19_15 : w18.cell? ⟨gb178, 15, none⟩ = some (.slice A0_15 l0_15.length c0_15) := (bc BK178.out 15).trans rfl; have hcz19_16 : w18.cell? ⟨gb178, 16, none⟩ = some (.slice A0_16 l0_16.length c0_16) := (bc BK178.out 16).trans rfl) | ((with_reducible refine gate_dst (N := 29) rfl ?_); refine wpList_load_row (P := Try.prog) rfl _ _ rfl gb178 ?hx _ _ _ _ (by (with_reducible repeat first | apply bN | apply bd | apply ba); with_reducible exact BK178.out) Try.underlying39 rfl (by kernel_rfl) ?_; (case hx => first | rfl | (go_simp; done))) | ((with_reducible refine gate_dst (N := 32) rfl ?_); refine wpList_load_row (P := Try.prog) rfl _ _ rfl gb178 ?hx _ _ _ _ (by (with_reducible repeat first | apply bN | apply bd | apply ba); with_reducible exact BK178.out) Try.underlying39 rfl (by kernel_rfl) ?_; (case hx => first | rfl | (go_simp; done))))
      go_ret
      exact ⟨by first | rfl | (simp [errW_none, errW_some] <;> rfl) | (simp [*, errW_none, errW_some] <;> rfl), by repeat (first | (with_reducible first | exact HB.out | apply wa | apply wN | apply wd | refine ws ?_ GE178.out) | exact HB.out)⟩
    rw [if_neg c17] at H
    have c17b0 : ((l0_15.length : Int) == 0) = false := beq_eq_false_iff_ne.mpr c17
    have c17b1 : ((l0_15.length : Int) != 0) = true := bne_iff_ne.mpr c17
    have c17b2 : ¬ (l0_15 = []) := fun h_ => c17 (by rw [h_]; rfl)
    obtain rfl := Option.some.inj H
    go_enter Try.func17, Try.ntmps17
    go_wp2_with (first | ((with_reducible refine gate_dst (N := 1) rfl ?_); (try (refine gate_guard (by rfl) ?_; dsimp only)); refine box_event ?hg (N := 1) ?hd (cs := #[.int .i64 a0_0, .int .i64 a0_1, .string a0_2, .int .i64 a0_3, .int .i64 a0_4, .int .i64 a0_5, .int .i64 a0_6, .slice A0_7 l0_7.length c0_7, .int .i64 a0_8, .int .i64 a0_9, .slice A0_10 l0_10.length c0_10, .int .i64 a0_11, .bool false, .int .i64 a0_13, .int .i64 a0_14, .slice A0_15 l0_15.length c0_15, .slice A0_16 l0_16.length c0_16, .slice A0_17 l0_17.length c0_17]) (t := 39) ?hr ?_; (case hd => rfl); (case hg => rfl); (case hr => first | (go_simp; done) | (go_simp; rfl)); intro gb178 hg w20 hbox hb; have n0_ := Aside0.mk (below_step (by repeat (first | (with_reducible first | exact HB.out | apply wa | apply wN | apply wd) | exact HB.out)) hb); have n1_ := Aside0.mk (hbox); have n2_ := Aside0.mk ((by rw [hg]; exact (below_size (by repeat (first | (with_reducible first | exact HB.out | apply wa | apply wN | apply wd) | exact HB.out))) : w.heap.size ≤ gb178)); have n3_ := n2_; clear HB; have HB := n0_; have BK178 := n1_; have GW178 := n2_; have GE178 := n3_; clear n0_ n1_ n2_ n3_; clear hb hbox hg; have hcz21_12 : w20.cell? ⟨gb178, 12, none⟩ = some (.bool false) := (bc BK178.out 12).trans rfl; have hcz21_13 : w20.cell? ⟨gb178, 13, none⟩ = some (.int .i64 a0_13) := (bc BK178.out 13).trans rfl; have hcz21_14 : w20.cell? ⟨gb178, 14, none⟩ = some (.int .i64 a0_14) := (bc BK178.out 14).trans rfl; have hcz21_15 : w20.cell? ⟨gb178, 15, none⟩ = some (.slice A0_15 l0_15.length c0_15) := (bc BK178.out 15).trans rfl; have hcz21_16 : w20.cell? ⟨gb178, 16, none⟩ = some (.slice A0_16 l0_16.length c0_16) := (bc BK178.out 16).trans rfl) | ((with_reducible refine gate_dst (N := 29) rfl ?_); refine wpList_load_row (P := Try.prog) rfl _ _ rfl gb178 ?hx _ _ _ _ (by (with_reducible repeat first | apply bN | apply bd | apply ba); with_reducible exact BK178.out) Try.underlying39 rfl (by kernel_rfl) ?_; (case hx => first | rfl | (go_simp; done))) | ((with_reducible refine gate_dst (N := 32) rfl ?_); refine wpList_load_row (P := Try.prog) rfl _ _ rfl gb178 ?hx _ _ _ _ (by (with_reducible repeat first | apply bN | apply bd | apply ba); with_reducible exact BK178.out) Try.underlying39 rfl (by kernel_rfl) ?_; (case hx => first | rfl | (go_simp; done))))
    go_ret
    exact ⟨by first | rfl | (simp [errW_none, errW_some] <;> rfl) | (simp [*, errW_none, errW_some] <;> rfl), by repeat (first | (with_reducible first | exact HB.out | apply wa | apply wN | apply wd | refine ws ?_ GE178.out) | exact HB.out)⟩
  subst c2
  have H1 : ((spec_l21Jobs.f k a0_0 a0_1 a0_2 a0_3 a0_4 a0_5 a0_6 l0_7 a0_8 a0_9 l0_10 a0_11 true a0_13 a0_14 l0_15 l0_16 l0_17).bind fun t179 => (if t179 = true then ((spec_LayerOf.f k a0_0 a0_1 a0_2 a0_3 a0_4 a0_5 a0_6 l0_7 a0_8 a0_9 l0_10 a0_11 true a0_13 a0_14 l0_15 l0_16 l0_17).bind fun t180 => (some (decide (t180 < a0_13)))) else (some false))) = some r := by rw [if_pos rfl] at H; exact H
  clear H
  have H := H1
  clear H1
  replace H := Option.bind_eq_some_iff.mp H
  obtain ⟨t179, A30, H⟩ := H
  replace H : (if t179 = true then ((spec_LayerOf.f k a0_0 a0_1 a0_2 a0_3 a0_4 a0_5 a0_6 l0_7 a0_8 a0_9 l0_10 a0_11 true a0_13 a0_14 l0_15 l0_16 l0_17).bind fun t180 => (some (decide (t180 < a0_13)))) else (some false)) = some r := H
  have A3 := Aside0.mk A30
  clear A30
  by_cases c4 : t179 = true
  rotate_left
  · replace c4 := Bool.eq_false_iff.mpr c4
    subst c4
    have H1 : (some false) = some r := by rw [if_neg (show ¬ (false = true) by decide)] at H; exact H
    clear H
    have H := H1
    clear H1
    obtain rfl := Option.some.inj H
    go_enter Try.func17, Try.ntmps17
    try go_wp2_with (first | ((with_reducible refine gate_dst (N := 1) rfl ?_); (try (refine gate_guard (by rfl) ?_; dsimp only)); refine box_event ?hg (N := 1) ?hd (cs := #[.int .i64 a0_0, .int .i64 a0_1, .string a0_2, .int .i64 a0_3, .int .i64 a0_4, .int .i64 a0_5, .int .i64 a0_6, .slice A0_7 l0_7.length c0_7, .int .i64 a0_8, .int .i64 a0_9, .slice A0_10 l0_10.length c0_10, .int .i64 a0_11, .bool true, .int .i64 a0_13, .int .i64 a0_14, .slice A0_15 l0_15.length c0_15, .slice A0_16 l0_16.length c0_16, .slice A0_17 l0_17.length c0_17]) (t := 39) ?hr ?_; (case hd => rfl); (case hg => rfl); (case hr => first | (go_simp; done) | (go_simp; rfl)); intro gb178 hg w11 hbox hb; have n0_ := Aside0.mk (below_step (by repeat (first | (with_reducible first | exact HB.out | apply wa | apply wN | apply wd) | exact HB.out)) hb); have n1_ := Aside0.mk (hbox); have n2_ := Aside0.mk ((by rw [hg]; exact (below_size (by repeat (first | (with_reducible first | exact HB.out | apply wa | apply wN | apply wd) | exact HB.out))) : w.heap.size ≤ gb178)); have n3_ := n2_; clear HB; have HB := n0_; have BK178 := n1_; have GW178 := n2_; have GE178 := n3_; clear n0_ n1_ n2_ n3_; clear hb hbox hg; have hcz12_12 : w11.cell? ⟨gb178, 12, none⟩ = some (.bool true) := (bc BK178.out 12).trans rfl; have hcz12_13 : w11.cell? ⟨gb178, 13, none⟩ = some (.int .i64 a0_13) := (bc BK178.out 13).trans rfl; have hcz12_14 : w11.cell? ⟨gb178, 14, none⟩ = some (.int .i64 a0_14) := (bc BK178.out 14).trans rfl; have hcz12_15 : w11.cell? ⟨gb178, 15, none⟩ = some (.slice A0_15 l0_15.length c0_15) := (bc BK178.out 15).trans rfl; have hcz12_16 : w11.cell? ⟨gb178, 16, none⟩ = some (.slice A0_16 l0_16.length c0_16) := (bc BK178.out 16).trans rfl) | ((with_reducible refine gate_dst (N := 29) rfl ?_); refine wpList_load_row (P := Try.prog) rfl _ _ rfl gb178 ?hx _ _ _ _ (by (with_reducible repeat first | apply bN | apply bd | apply ba); with_reducible exact BK178.out) Try.underlying39 rfl (by kernel_rfl) ?_; (case hx => first | rfl | (go_simp; done))) | ((with_reducible refine gate_dst (N := 32) rfl ?_); refine wpList_load_row (P := Try.prog) rfl _ _ rfl gb178 ?hx _ _ _ _ (by (with_reducible repeat first | apply bN | apply bd | apply ba); with_reducible exact BK178.out) Try.underlying39 rfl (by kernel_rfl) ?_; (case hx => first | rfl | (go_simp; done))))
    have n0_ := Aside0.mk (bd BK178.out)
    have n1_ := Aside0.mk (wd HB.out)
    clear BK178
    clear HB
    have BK178 := n0_
    have HB := n1_
    clear n0_ n1_
    refine start_ (n := 11) (S := fun w' => w'.heap[gb178]? = some (.cells #[.int .i64 a0_0, .int .i64 a0_1, .string a0_2, .int .i64 a0_3, .int .i64 a0_4, .int .i64 a0_5, .int .i64 a0_6, .slice A0_7 l0_7.length c0_7, .int .i64 a0_8, .int .i64 a0_9, .slice A0_10 l0_10.length c0_10, .int .i64 a0_11, .bool true, .int .i64 a0_13, .int .i64 a0_14, .slice A0_15 l0_15.length c0_15, .slice A0_16 l0_16.length c0_16, .slice A0_17 l0_17.length c0_17] 39 (0, 0))) (ds := []) #[false, false, false, false, false, false, false, false, false, false, false] (by kernel_rfl) rfl rfl BK178.out (fun hHeld => ?_); refine with_tabW spec_JobsOk.tab3 spec_JobsOk.bits3 (fun HT_ HW_ => ?_)
    generalize w11.drew = w13 at BK178 HB hHeld ⊢
    refine take_ (i := 0) (N := some 29) (v := .agg #[.int .i64 a0_0, .int .i64 a0_1, .string a0_2, .int .i64 a0_3, .int .i64 a0_4, .int .i64 a0_5, .int .i64 a0_6, .slice A0_7 l0_7.length c0_7, .int .i64 a0_8, .int .i64 a0_9, .slice A0_10 l0_10.length c0_10, .int .i64 a0_11, .bool true, .int .i64 a0_13, .int .i64 a0_14, .slice A0_15 l0_15.length c0_15, .slice A0_16 l0_16.length c0_16, .slice A0_17 l0_17.length c0_17]) (a' := ?_) #[true, false, false, false, false, false, false, false, false, false, false] rfl rfl (take_ofW HT_.out HW_.out (by kernel_rfl)) (fun _ _ _ h => h) (Or.inl ⟨by rfl, ?_⟩) hHeld ?_ ?_
    · rintro w' s0
      exact Go.Proofs.Ytfinjkjnoobbjaa.MyHof.exec_load_row (ty := 39) (x := Operand.tmp 1) (by rfl) (by first | rfl | (go_simp; done)) s0 Try.underlying39 rfl (by kernel_rfl)
    rotate_left
    · simp only [Act.put, List.setIfInBounds_toArray, List.set_cons_zero, List.set_cons_succ, i64_w, i32_w]
      rfl
    refine one_ (i := 1) (N := some 30) #[true, true, false, false, false, false, false, false, false, false, false] rfl rfl (one_of HT_.out (by kernel_rfl)) (by decide) (fun K hK => ?_)
    refine goes_ Try.func70 (by kernel_rfl) rfl #[.agg #[.int .i64 a0_0, .int .i64 a0_1, .string a0_2, .int .i64 a0_3, .int .i64 a0_4, .int .i64 a0_5, .int .i64 a0_6, .slice A0_7 l0_7.length c0_7, .int .i64 a0_8, .int .i64 a0_9, .slice A0_10 l0_10.length c0_10, .int .i64 a0_11, .bool true, .int .i64 a0_13, .int .i64 a0_14, .slice A0_15 l0_15.length c0_15, .slice A0_16 l0_16.length c0_16, .slice A0_17 l0_17.length c0_17]] (by rfl) rfl rfl (by (try simp only [List.map_toArray, List.map_cons, List.map_nil]); first | done | rfl | (simp only [List.length_drop, List.length_take]; rfl)) ?_
    with_reducible refine (spec_l21Jobs.calls k a0_0 a0_1 a0_2 a0_3 a0_4 a0_5 a0_6 _ _ l0_7 a0_8 a0_9 _ _ l0_10 a0_11 true a0_13 a0_14 _ _ l0_15 _ _ l0_16 _ _ l0_17 false _ ?side1 ?side2 ?side3 ?side4 ?side5 ?side6 ?side7 ?side8 ?side9 ?side10 A3.out).mono ?_
    (case side1 => repeat (first | exact (Kd.C_below HR0_7.out HB.out) | (with_reducible refine Kd.Ca ?_ _) | (with_reducible refine Kd.Cn ?_ _) | (with_reducible refine Kd.Cd ?_)))
    (case side2 => exact HC0_7.out)
    (case side3 => repeat (first | exact (Kd.C_below HR0_10.out HB.out) | (with_reducible refine Kd.Ca ?_ _) | (with_reducible refine Kd.Cn ?_ _) | (with_reducible refine Kd.Cd ?_)))
    (case side4 => exact HC0_10.out)
    (case side5 => repeat (first | exact (Kd.C_below HR0_15.out HB.out) | (with_reducible refine Kd.Ca ?_ _) | (with_reducible refine Kd.Cn ?_ _) | (with_reducible refine Kd.Cd ?_)))
    (case side6 => exact HC0_15.out)
    (case side7 => repeat (first | exact (Kd.C_below HR0_16.out HB.out) | (with_reducible refine Kd.Ca ?_ _) | (with_reducible refine Kd.Cn ?_ _) | (with_reducible refine Kd.Cd ?_)))
    (case side8 => exact HC0_16.out)
    (case side9 => repeat (first | exact (Kd.C_below HR0_17.out HB.out) | (with_reducible refine Kd.Ca ?_ _) | (with_reducible refine Kd.Cn ?_ _) | (with_reducible refine Kd.Cd ?_)))
    (case side10 => exact HC0_17.out)
    rintro e w14 ⟨rfl, hb⟩
    refine ⟨_, rfl, ?_⟩
    have n0_ := Aside0.mk (bb (g := gb178) (by first | (with_reducible exact BK178.out) | (with_reducible exact bN BK178.out _) | (with_reducible exact bd BK178.out) | ((with_reducible repeat first | apply bN | apply bd | apply ba); exact BK178.out)) hb)
    have n1_ := Aside0.mk (below_step (by repeat (first | (with_reducible first | exact HB.out | apply wa | apply wN | apply wd | refine ws ?_ GE178.out) | exact HB.out)) hb)
    clear BK178
    clear HB
    have BK178 := n0_
    have HB := n1_
    clear n0_ n1_
    (try clear hb)
    (try clear hb2)
    (try clear hk)
    (try clear hi)
    refine hK.out _ _ BK178.out (fun hHeld => ?_)
    clear hK K
    refine norm_ (a' := ?_) ?_ ?_
    rotate_left
    · show Act.put _ (some 30) _ = _
      simp only [Act.put, List.setIfInBounds_toArray, List.set_cons_zero, List.set_cons_succ, i64_w, i32_w]
      rfl
    refine plan_ [(2, 31, 0), (3, 32, 1), (4, 33, 1), (5, 34, 1), (6, 35, 1), (7, 36, 1), (8, 37, 1), (9, 38, 0), (10, 2, 0)] ?_
    repeat (first | (refine p0_ (v := ?_) (a' := ?_) HT_.out (by rfl) (by rfl) (by rfl) (by kernel_rfl) (by exact fun _ _ _ h => h) (Or.inl ⟨by rfl, ?_⟩) ?_ ?_; rotate_left; (· (intro w'; go_simp; with_reducible rfl)); rotate_left; (· (simp only [Act.put, List.setIfInBounds_toArray, List.set_cons_zero, List.set_cons_succ, i64_w, i32_w]; rfl))) | (refine p1_ (a' := ?_) HT_.out (by rfl) (by rfl) (by rfl) (by kernel_rfl) (by exact fun _ _ _ h => h) (Or.inr ⟨by rfl, rfl⟩) ?_ ?_; rotate_left; (· (simp only [Act.put, List.setIfInBounds_toArray, List.set_cons_zero, List.set_cons_succ, i64_w, i32_w]; rfl))))
    with_reducible refine end_ ?_
    refine done_ (done_of HT_.out (by kernel_rfl)) ?_
    try go_wp2_with (first | ((with_reducible refine gate_dst (N := 29) rfl ?_); refine wpList_load_row (P := Try.prog) rfl _ _ rfl gb178 ?hx _ _ _ _ (by (with_reducible repeat first | apply bN | apply bd | apply ba); with_reducible exact BK178.out) Try.underlying39 rfl (by kernel_rfl) ?_; (case hx => first | rfl | (go_simp; done))) | ((with_reducible refine gate_dst (N := 32) rfl ?_); refine wpList_load_row (P := Try.prog) rfl _ _ rfl gb178 ?hx _ _ _ _ (by (with_reducible repeat first | apply bN | apply bd | apply ba); with_reducible exact BK178.out) Try.underlying39 rfl (by kernel_rfl) ?_; (case hx => first | rfl | (go_simp; done))))
    go_ret
    exact ⟨by first | rfl | (simp [errW_none, errW_some] <;> rfl) | (simp [*, errW_none, errW_some] <;> rfl), by repeat (first | (with_reducible first | exact HB.out | apply wa | apply wN | apply wd | refine ws ?_ GE178.out) | exact HB.out)⟩
  subst c4
  have H1 : ((spec_LayerOf.f k a0_0 a0_1 a0_2 a0_3 a0_4 a0_5 a0_6 l0_7 a0_8 a0_9 l0_10 a0_11 true a0_13 a0_14 l0_15 l0_16 l0_17).bind fun t180 => (some (decide (t180 < a0_13)))) = some r := by rw [if_pos rfl] at H; exact H
  clear H
  have H := H1
  clear H1
  replace H := Option.bind_eq_some_iff.mp H
  obtain ⟨t180, A50, H⟩ := H
  replace H : (some (decide (t180 < a0_13))) = some r := H
  have A5 := Aside0.mk A50
  clear A50
  obtain rfl := Option.some.inj H
  go_enter Try.func17, Try.ntmps17
  try go_wp2_with (first | ((with_reducible refine gate_dst (N := 1) rfl ?_); (try (refine gate_guard (by rfl) ?_; dsimp only)); refine box_event ?hg (N := 1) ?hd (cs := #[.int .i64 a0_0, .int .i64 a0_1, .string a0_2, .int .i64 a0_3, .int .i64 a0_4, .int .i64 a0_5, .int .i64 a0_6, .slice A0_7 l0_7.length c0_7, .int .i64 a0_8, .int .i64 a0_9, .slice A0_10 l0_10.length c0_10, .int .i64 a0_11, .bool true, .int .i64 a0_13, .int .i64 a0_14, .slice A0_15 l0_15.length c0_15, .slice A0_16 l0_16.length c0_16, .slice A0_17 l0_17.length c0_17]) (t := 39) ?hr ?_; (case hd => rfl); (case hg => rfl); (case hr => first | (go_simp; done) | (go_simp; rfl)); intro gb178 hg w6 hbox hb; have n0_ := Aside0.mk (below_step (by repeat (first | (with_reducible first | exact HB.out | apply wa | apply wN | apply wd) | exact HB.out)) hb); have n1_ := Aside0.mk (hbox); have n2_ := Aside0.mk ((by rw [hg]; exact (below_size (by repeat (first | (with_reducible first | exact HB.out | apply wa | apply wN | apply wd) | exact HB.out))) : w.heap.size ≤ gb178)); have n3_ := n2_; clear HB; have HB := n0_; have BK178 := n1_; have GW178 := n2_; have GE178 := n3_; clear n0_ n1_ n2_ n3_; clear hb hbox hg; have hcz7_12 : w6.cell? ⟨gb178, 12, none⟩ = some (.bool true) := (bc BK178.out 12).trans rfl; have hcz7_13 : w6.cell? ⟨gb178, 13, none⟩ = some (.int .i64 a0_13) := (bc BK178.out 13).trans rfl; have hcz7_14 : w6.cell? ⟨gb178, 14, none⟩ = some (.int .i64 a0_14) := (bc BK178.out 14).trans rfl; have hcz7_15 : w6.cell? ⟨gb178, 15, none⟩ = some (.slice A0_15 l0_15.length c0_15) := (bc BK178.out 15).trans rfl; have hcz7_16 : w6.cell? ⟨gb178, 16, none⟩ = some (.slice A0_16 l0_16.length c0_16) := (bc BK178.out 16).trans rfl) | ((with_reducible refine gate_dst (N := 29) rfl ?_); refine wpList_load_row (P := Try.prog) rfl _ _ rfl gb178 ?hx _ _ _ _ (by (with_reducible repeat first | apply bN | apply bd | apply ba); with_reducible exact BK178.out) Try.underlying39 rfl (by kernel_rfl) ?_; (case hx => first | rfl | (go_simp; done))) | ((with_reducible refine gate_dst (N := 32) rfl ?_); refine wpList_load_row (P := Try.prog) rfl _ _ rfl gb178 ?hx _ _ _ _ (by (with_reducible repeat first | apply bN | apply bd | apply ba); with_reducible exact BK178.out) Try.underlying39 rfl (by kernel_rfl) ?_; (case hx => first | rfl | (go_simp; done))))
  have n0_ := Aside0.mk (bd BK178.out)
  have n1_ := Aside0.mk (wd HB.out)
  clear BK178
  clear HB
  have BK178 := n0_
  have HB := n1_
  clear n0_ n1_
  refine start_ (n := 11) (S := fun w' => w'.heap[gb178]? = some (.cells #[.int .i64 a0_0, .int .i64 a0_1, .string a0_2, .int .i64 a0_3, .int .i64 a0_4, .int .i64 a0_5, .int .i64 a0_6, .slice A0_7 l0_7.length c0_7, .int .i64 a0_8, .int .i64 a0_9, .slice A0_10 l0_10.length c0_10, .int .i64 a0_11, .bool true, .int .i64 a0_13, .int .i64 a0_14, .slice A0_15 l0_15.length c0_15, .slice A0_16 l0_16.length c0_16, .slice A0_17 l0_17.length c0_17] 39 (0, 0))) (ds := []) #[false, false, false, false, false, false, false, false, false, false, false] (by kernel_rfl) rfl rfl BK178.out (fun hHeld => ?_); refine with_tabW spec_JobsOk.tab3 spec_JobsOk.bits3 (fun HT_ HW_ => ?_)
  generalize w6.drew = w8 at BK178 HB hHeld ⊢
  refine take_ (i := 0) (N := some 29) (v := .agg #[.int .i64 a0_0, .int .i64 a0_1, .string a0_2, .int .i64 a0_3, .int .i64 a0_4, .int .i64 a0_5, .int .i64 a0_6, .slice A0_7 l0_7.length c0_7, .int .i64 a0_8, .int .i64 a0_9, .slice A0_10 l0_10.length c0_10, .int .i64 a0_11, .bool true, .int .i64 a0_13, .int .i64 a0_14, .slice A0_15 l0_15.length c0_15, .slice A0_16 l0_16.length c0_16, .slice A0_17 l0_17.length c0_17]) (a' := ?_) #[true, false, false, false, false, false, false, false, false, false, false] rfl rfl (take_ofW HT_.out HW_.out (by kernel_rfl)) (fun _ _ _ h => h) (Or.inl ⟨by rfl, ?_⟩) hHeld ?_ ?_
  · rintro w' s0
    exact Go.Proofs.Ytfinjkjnoobbjaa.MyHof.exec_load_row (ty := 39) (x := Operand.tmp 1) (by rfl) (by first | rfl | (go_simp; done)) s0 Try.underlying39 rfl (by kernel_rfl)
  rotate_left
  · simp only [Act.put, List.setIfInBounds_toArray, List.set_cons_zero, List.set_cons_succ, i64_w, i32_w]
    rfl
  refine one_ (i := 1) (N := some 30) #[true, true, false, false, false, false, false, false, false, false, false] rfl rfl (one_of HT_.out (by kernel_rfl)) (by decide) (fun K hK => ?_)
  refine goes_ Try.func70 (by kernel_rfl) rfl #[.agg #[.int .i64 a0_0, .int .i64 a0_1, .string a0_2, .int .i64 a0_3, .int .i64 a0_4, .int .i64 a0_5, .int .i64 a0_6, .slice A0_7 l0_7.length c0_7, .int .i64 a0_8, .int .i64 a0_9, .slice A0_10 l0_10.length c0_10, .int .i64 a0_11, .bool true, .int .i64 a0_13, .int .i64 a0_14, .slice A0_15 l0_15.length c0_15, .slice A0_16 l0_16.length c0_16, .slice A0_17 l0_17.length c0_17]] (by rfl) rfl rfl (by (try simp only [List.map_toArray, List.map_cons, List.map_nil]); first | done | rfl | (simp only [List.length_drop, List.length_take]; rfl)) ?_
  with_reducible refine (spec_l21Jobs.calls k a0_0 a0_1 a0_2 a0_3 a0_4 a0_5 a0_6 _ _ l0_7 a0_8 a0_9 _ _ l0_10 a0_11 true a0_13 a0_14 _ _ l0_15 _ _ l0_16 _ _ l0_17 true _ ?side1 ?side2 ?side3 ?side4 ?side5 ?side6 ?side7 ?side8 ?side9 ?side10 A3.out).mono ?_
  (case side1 => repeat (first | exact (Kd.C_below HR0_7.out HB.out) | (with_reducible refine Kd.Ca ?_ _) | (with_reducible refine Kd.Cn ?_ _) | (with_reducible refine Kd.Cd ?_)))
  (case side2 => exact HC0_7.out)
  (case side3 => repeat (first | exact (Kd.C_below HR0_10.out HB.out) | (with_reducible refine Kd.Ca ?_ _) | (with_reducible refine Kd.Cn ?_ _) | (with_reducible refine Kd.Cd ?_)))
  (case side4 => exact HC0_10.out)
  (case side5 => repeat (first | exact (Kd.C_below HR0_15.out HB.out) | (with_reducible refine Kd.Ca ?_ _) | (with_reducible refine Kd.Cn ?_ _) | (with_reducible refine Kd.Cd ?_)))
  (case side6 => exact HC0_15.out)
  (case side7 => repeat (first | exact (Kd.C_below HR0_16.out HB.out) | (with_reducible refine Kd.Ca ?_ _) | (with_reducible refine Kd.Cn ?_ _) | (with_reducible refine Kd.Cd ?_)))
  (case side8 => exact HC0_16.out)
  (case side9 => repeat (first | exact (Kd.C_below HR0_17.out HB.out) | (with_reducible refine Kd.Ca ?_ _) | (with_reducible refine Kd.Cn ?_ _) | (with_reducible refine Kd.Cd ?_)))
  (case side10 => exact HC0_17.out)
  rintro e w9 ⟨rfl, hb⟩
  refine ⟨_, rfl, ?_⟩
  have n0_ := Aside0.mk (bb (g := gb178) (by first | (with_reducible exact BK178.out) | (with_reducible exact bN BK178.out _) | (with_reducible exact bd BK178.out) | ((with_reducible repeat first | apply bN | apply bd | apply ba); exact BK178.out)) hb)
  have n1_ := Aside0.mk (below_step (by repeat (first | (with_reducible first | exact HB.out | apply wa | apply wN | apply wd | refine ws ?_ GE178.out) | exact HB.out)) hb)
  clear BK178
  clear HB
  have BK178 := n0_
  have HB := n1_
  clear n0_ n1_
  (try clear hb)
  (try clear hb2)
  (try clear hk)
  (try clear hi)
  refine hK.out _ _ BK178.out (fun hHeld => ?_)
  clear hK K
  refine norm_ (a' := ?_) ?_ ?_
  rotate_left
  · show Act.put _ (some 30) _ = _
    simp only [Act.put, List.setIfInBounds_toArray, List.set_cons_zero, List.set_cons_succ, i64_w, i32_w]
    rfl
  refine plan_ [(2, 31, 0), (5, 34, 0), (6, 35, 0)] ?_
  repeat (refine p0_ (v := ?_) (a' := ?_) HT_.out (by rfl) (by rfl) (by rfl) (by kernel_rfl) (by exact fun _ _ _ h => h) (Or.inl ⟨by rfl, ?_⟩) ?_ ?_; rotate_left; (· (intro w'; go_simp; with_reducible rfl)); rotate_left; (· (simp only [Act.put, List.setIfInBounds_toArray, List.set_cons_zero, List.set_cons_succ, i64_w, i32_w]; rfl)))
  with_reducible refine end_ ?_
  refine take_ (i := 3) (N := some 32) (v := .agg #[.int .i64 a0_0, .int .i64 a0_1, .string a0_2, .int .i64 a0_3, .int .i64 a0_4, .int .i64 a0_5, .int .i64 a0_6, .slice A0_7 l0_7.length c0_7, .int .i64 a0_8, .int .i64 a0_9, .slice A0_10 l0_10.length c0_10, .int .i64 a0_11, .bool true, .int .i64 a0_13, .int .i64 a0_14, .slice A0_15 l0_15.length c0_15, .slice A0_16 l0_16.length c0_16, .slice A0_17 l0_17.length c0_17]) (a' := ?_) #[true, true, true, true, false, true, true, false, false, false, false] rfl rfl (take_ofW HT_.out HW_.out (by kernel_rfl)) (fun _ _ _ h => h) (Or.inl ⟨by rfl, ?_⟩) hHeld ?_ ?_
  · rintro w' s0
    exact Go.Proofs.Ytfinjkjnoobbjaa.MyHof.exec_load_row (ty := 39) (x := Operand.tmp 1) (by rfl) (by first | rfl | (go_simp; done)) s0 Try.underlying39 rfl (by kernel_rfl)
  rotate_left
  · simp only [Act.put, List.setIfInBounds_toArray, List.set_cons_zero, List.set_cons_succ, i64_w, i32_w]
    rfl
  refine take_ (i := 7) (N := some 36) (v := ?_) (a' := ?_) #[true, true, true, true, false, true, true, true, false, false, false] rfl rfl (take_ofW HT_.out HW_.out (by kernel_rfl)) (fun _ _ _ h => h) (Or.inl ⟨by rfl, ?_⟩) hHeld ?_ ?_
  rotate_left
  · rintro w' s0; have sq0 := bc s0; clear s0
    go_simp
    with_reducible rfl
  rotate_left
  · simp only [Act.put, List.setIfInBounds_toArray, List.set_cons_zero, List.set_cons_succ, i64_w, i32_w]
    rfl
  refine one_ (i := 4) (N := some 33) #[true, true, true, true, true, true, true, true, false, false, false] rfl rfl (one_of HT_.out (by kernel_rfl)) (by decide) (fun K hK => ?_)
  refine goes_ Try.func71 (by kernel_rfl) rfl #[.agg #[.int .i64 a0_0, .int .i64 a0_1, .string a0_2, .int .i64 a0_3, .int .i64 a0_4, .int .i64 a0_5, .int .i64 a0_6, .slice A0_7 l0_7.length c0_7, .int .i64 a0_8, .int .i64 a0_9, .slice A0_10 l0_10.length c0_10, .int .i64 a0_11, .bool true, .int .i64 a0_13, .int .i64 a0_14, .slice A0_15 l0_15.length c0_15, .slice A0_16 l0_16.length c0_16, .slice A0_17 l0_17.length c0_17]] (by rfl) rfl rfl (by (try simp only [List.map_toArray, List.map_cons, List.map_nil]); first | done | rfl | (simp only [List.length_drop, List.length_take]; rfl)) ?_
  with_reducible refine (spec_LayerOf.calls k a0_0 a0_1 a0_2 a0_3 a0_4 a0_5 a0_6 _ _ l0_7 a0_8 a0_9 _ _ l0_10 a0_11 true a0_13 a0_14 _ _ l0_15 _ _ l0_16 _ _ l0_17 t180 _ ?side1 ?side2 ?side3 ?side4 ?side5 ?side6 ?side7 ?side8 ?side9 ?side10 A5.out).mono ?_
  (case side1 => repeat (first | exact (Kd.C_below HR0_7.out HB.out) | (with_reducible refine Kd.Ca ?_ _) | (with_reducible refine Kd.Cn ?_ _) | (with_reducible refine Kd.Cd ?_)))
  (case side2 => exact HC0_7.out)
  (case side3 => repeat (first | exact (Kd.C_below HR0_10.out HB.out) | (with_reducible refine Kd.Ca ?_ _) | (with_reducible refine Kd.Cn ?_ _) | (with_reducible refine Kd.Cd ?_)))
  (case side4 => exact HC0_10.out)
  (case side5 => repeat (first | exact (Kd.C_below HR0_15.out HB.out) | (with_reducible refine Kd.Ca ?_ _) | (with_reducible refine Kd.Cn ?_ _) | (with_reducible refine Kd.Cd ?_)))
  (case side6 => exact HC0_15.out)
  (case side7 => repeat (first | exact (Kd.C_below HR0_16.out HB.out) | (with_reducible refine Kd.Ca ?_ _) | (with_reducible refine Kd.Cn ?_ _) | (with_reducible refine Kd.Cd ?_)))
  (case side8 => exact HC0_16.out)
  (case side9 => repeat (first | exact (Kd.C_below HR0_17.out HB.out) | (with_reducible refine Kd.Ca ?_ _) | (with_reducible refine Kd.Cn ?_ _) | (with_reducible refine Kd.Cd ?_)))
  (case side10 => exact HC0_17.out)
  rintro e w10 ⟨rfl, hb⟩
  refine ⟨_, rfl, ?_⟩
  have n0_ := Aside0.mk (bb (g := gb178) (by first | (with_reducible exact BK178.out) | (with_reducible exact bN BK178.out _) | (with_reducible exact bd BK178.out) | ((with_reducible repeat first | apply bN | apply bd | apply ba); exact BK178.out)) hb)
  have n1_ := Aside0.mk (below_step (by repeat (first | (with_reducible first | exact HB.out | apply wa | apply wN | apply wd | refine ws ?_ GE178.out) | exact HB.out)) hb)
  clear BK178
  clear HB
  have BK178 := n0_
  have HB := n1_
  clear n0_ n1_
  (try clear hb)
  (try clear hb2)
  (try clear hk)
  (try clear hi)
  refine hK.out _ _ BK178.out (fun hHeld => ?_)
  clear hK K
  refine norm_ (a' := ?_) ?_ ?_
  rotate_left
  · show Act.put _ (some 33) _ = _
    simp only [Act.put, List.setIfInBounds_toArray, List.set_cons_zero, List.set_cons_succ, i64_w, i32_w]
    rfl
  refine plan_ [(8, 37, 0), (9, 38, 0), (10, 2, 0)] ?_
  repeat (refine p0_ (v := ?_) (a' := ?_) HT_.out (by rfl) (by rfl) (by rfl) (by kernel_rfl) (by exact fun _ _ _ h => h) (Or.inl ⟨by rfl, ?_⟩) ?_ ?_; rotate_left; (· (intro w'; go_simp; with_reducible rfl)); rotate_left; (· (simp only [Act.put, List.setIfInBounds_toArray, List.set_cons_zero, List.set_cons_succ, i64_w, i32_w]; rfl)))
  with_reducible refine end_ ?_
  refine done_ (done_of HT_.out (by kernel_rfl)) ?_
  try go_wp2_with (first | ((with_reducible refine gate_dst (N := 29) rfl ?_); refine wpList_load_row (P := Try.prog) rfl _ _ rfl gb178 ?hx _ _ _ _ (by (with_reducible repeat first | apply bN | apply bd | apply ba); with_reducible exact BK178.out) Try.underlying39 rfl (by kernel_rfl) ?_; (case hx => first | rfl | (go_simp; done))) | ((with_reducible refine gate_dst (N := 32) rfl ?_); refine wpList_load_row (P := Try.prog) rfl _ _ rfl gb178 ?hx _ _ _ _ (by (with_reducible repeat first | apply bN | apply bd | apply ba); with_reducible exact BK178.out) Try.underlying39 rfl (by kernel_rfl) ?_; (case hx => first | rfl | (go_simp; done))))
  go_ret
  exact ⟨by first | rfl | (simp [errW_none, errW_some] <;> rfl) | (simp [*, errW_none, errW_some] <;> rfl), by repeat (first | (with_reducible first | exact HB.out | apply wa | apply wN | apply wd | refine ws ?_ GE178.out) | exact HB.out)⟩

/-! ### laws_toGrid: function 49 -/
def laws_toGrid.f (a0_0 : Int) (a0_1 : Int) (a0_2 : ByteArray) : Option (Int × Int × ByteArray) := some (a0_0, a0_1, a0_2)
set_option maxHeartbeats 8000000 in
set_option maxRecDepth 100000 in
theorem laws_toGrid.calls (a0_0 : Int) (a0_1 : Int) (a0_2 : ByteArray) (r1 : Int) (r2 : Int) (r3 : ByteArray) (w : World) (h : laws_toGrid.f a0_0 a0_1 a0_2 = some (r1, r2, r3)) :
    Calls Try.prog 49 #[.agg #[.int .i64 a0_0, .int .i64 a0_1, .string a0_2]] w fun e w' => e = .returned (.agg #[.int .i64 r1, .int .i64 r2, .string r3]) ∧ Below w.heap.size w w' := by
  have hu23 := Try.underlying23
  have hu27 := Try.underlying27
  have HB := Aside0.mk (Below.refl w.heap.size w)
  have H : (some (a0_0, a0_1, a0_2)) = some (r1, r2, r3) := h
  clear h
  simp only [Option.some.injEq, Prod.mk.injEq] at H
  obtain ⟨rfl, rfl, rfl⟩ := H
  go_enter Try.func49, Try.ntmps49
  go_wp2_with (first | ((with_reducible refine gate_dst (N := 1) rfl ?_); refine box_event ?hg (N := 1) ?hd (cs := #[.int .i64 a0_0, .int .i64 a0_1, .string a0_2]) (t := 23) ?hr ?_; (case hd => rfl); (case hg => rfl); (case hr => first | (go_simp; done) | (go_simp; rfl)); intro gb181 hg w2 hbox hb; have n0_ := Aside0.mk (below_step (by repeat (first | (with_reducible first | exact HB.out | apply wa | apply wN | apply wd) | exact HB.out)) hb); have n1_ := Aside0.mk (hbox); have n2_ := Aside0.mk ((by rw [hg]; exact (below_size (by repeat (first | (with_reducible first | exact HB.out | apply wa | apply wN | apply wd) | exact HB.out))) : w.heap.size ≤ gb181)); have n3_ := n2_; clear HB; have HB := n0_; have BK181 := n1_; have GW181 := n2_; have GE181 := n3_; clear n0_ n1_ n2_ n3_; clear hb hbox hg) | ((with_reducible refine gate_dst (N := 2) rfl ?_); refine box_event ?hg (N := 2) ?hd (cs := #[.int .i64 0, .int .i64 0, .string (⟨#[]⟩ : ByteArray)]) (t := 27) ?hr ?_; (case hd => rfl); (case hg => rfl); (case hr => first | (go_simp; done) | (go_simp; rfl)); intro gb182 hg w3 hbox hb; have n0_ := Aside0.mk (bb (g := gb181) (by first | (with_reducible exact BK181.out) | (with_reducible exact bN BK181.out _) | (with_reducible exact bd BK181.out) | ((with_reducible repeat first | apply bN | apply bd | apply ba); exact BK181.out)) hb); have n1_ := Aside0.mk (below_step (by repeat (first | (with_reducible first | exact HB.out | apply wa | apply wN | apply wd | refine ws ?_ GE181.out) | exact HB.out)) hb); have n2_ := Aside0.mk (hbox); have n3_ := Aside0.mk ((by rw [hg]; exact (below_size (by repeat (first | (with_reducible first | exact HB.out | apply wa | apply wN | apply wd | refine ws ?_ GE181.out) | exact HB.out))) : w.heap.size ≤ gb182)); have n4_ := n3_; have n5_ := Aside0.mk ((by rw [hg]; exact Nat.ne_of_lt (blk_lt (g := gb181) (by (with_reducible repeat first | apply bN | apply bd | apply ba); exact BK181.out)) : gb181 ≠ gb182)); have n6_ := Aside0.mk ((by rw [hg]; exact Nat.ne_of_gt (blk_lt (g := gb181) (by (with_reducible repeat first | apply bN | apply bd | apply ba); exact BK181.out)) : gb182 ≠ gb181)); clear BK181; clear HB; have BK181 := n0_; have HB := n1_; have BK182 := n2_; have GW182 := n3_; have GE182 := n4_; have NB181_182 := n5_; have NB182_181 := n6_; clear n0_ n1_ n2_ n3_ n4_ n5_ n6_; clear hb hbox hg) | ((with_reducible refine gate_dst (N := 3) rfl ?_); refine box_event ?hg (N := 3) ?hd (cs := #[.int .i64 0, .int .i64 0, .string (⟨#[]⟩ : ByteArray)]) (t := 27) ?hr ?_; (case hd => rfl); (case hg => rfl); (case hr => first | (go_simp; done) | (go_simp; rfl)); intro gb183 hg w4 hbox hb; have n0_ := Aside0.mk (bb (g := gb181) (by first | (with_reducible exact BK181.out) | (with_reducible exact bN BK181.out _) | (with_reducible exact bd BK181.out) | ((with_reducible repeat first | apply bN | apply bd | apply ba); exact BK181.out)) hb); have n1_ := Aside0.mk (bb (g := gb182) (by first | (with_reducible exact BK182.out) | (with_reducible exact bN BK182.out _) | (with_reducible exact bd BK182.out) | ((with_reducible repeat first | apply bN | apply bd | apply ba); exact BK182.out)) hb); have n2_ := Aside0.mk (below_step (by repeat (first | (with_reducible first | exact HB.out | apply wa | apply wN | apply wd | refine ws ?_ GE181.out | refine ws ?_ GE182.out) | exact HB.out)) hb); have n3_ := Aside0.mk (hbox); have n4_ := Aside0.mk ((by rw [hg]; exact (below_size (by repeat (first | (with_reducible first | exact HB.out | apply wa | apply wN | apply wd | refine ws ?_ GE181.out | refine ws ?_ GE182.out) | exact HB.out))) : w.heap.size ≤ gb183)); have n5_ := n4_; have n6_ := Aside0.mk ((by rw [hg]; exact Nat.ne_of_lt (blk_lt (g := gb181) (by (with_reducible repeat first | apply bN | apply bd | apply ba); exact BK181.out)) : gb181 ≠ gb183)); have n7_ := Aside0.mk ((by rw [hg]; exact Nat.ne_of_gt (blk_lt (g := gb181) (by (with_reducible repeat first | apply bN | apply bd | apply ba); exact BK181.out)) : gb183 ≠ gb181)); have n8_ := Aside0.mk ((by rw [hg]; exact Nat.ne_of_lt (blk_lt (g := gb182) (by (with_reducible repeat first | apply bN | apply bd | apply ba); exact BK182.out)) : gb182 ≠ gb183)); have n9_ := Aside0.mk ((by rw [hg]; exact Nat.ne_of_gt (blk_lt (g := gb182) (by (with_reducible repeat first | apply bN | apply bd | apply ba); exact BK182.out)) : gb183 ≠ gb182)); clear BK181; clear BK182; clear HB; have BK181 := n0_; have BK182 := n1_; have HB := n2_; have BK183 := n3_; have GW183 := n4_; have GE183 := n5_; have NB181_183 := n6_; have NB183_181 := n7_; have NB182_183 := n8_; have NB183_182 := n9_; clear n0_ n1_ n2_ n3_ n4_ n5_ n6_ n7_ n8_ n9_; clear hb hbox hg; have hnb5 := NB181_182.out; have hnc5 := NB182_181.out; have hnb6 := NB181_183.out; have hnc6 := NB183_181.out; have hcz7_0 : w4.cell? ⟨gb181, 0, none⟩ = some (.int .i64 a0_0) := (bc BK181.out 0).trans rfl; have hcz7_1 : w4.cell? ⟨gb181, 1, none⟩ = some (.int .i64 a0_1) := (bc BK181.out 1).trans rfl; have hcz7_2 : w4.cell? ⟨gb181, 2, none⟩ = some (.string a0_2) := (bc BK181.out 2).trans rfl; have hnb8 := NB183_182.out; have hnc8 := NB182_183.out; have hcz9_0 : w4.cell? ⟨gb183, 0, none⟩ = some (.int .i64 0) := (bc BK183.out 0).trans rfl; have hcz9_1 : w4.cell? ⟨gb183, 1, none⟩ = some (.int .i64 0) := (bc BK183.out 1).trans rfl; have hcz9_2 : w4.cell? ⟨gb183, 2, none⟩ = some (.string (⟨#[]⟩ : ByteArray)) := (bc BK183.out 2).trans rfl; have hfz9_0 := bz BK183.out 0; have hfz9_1 := bz BK183.out 1; have hfz9_2 := bz BK183.out 2; have hcz10_0 : w4.cell? ⟨gb182, 0, none⟩ = some (.int .i64 0) := (bc BK182.out 0).trans rfl; have hcz10_1 : w4.cell? ⟨gb182, 1, none⟩ = some (.int .i64 0) := (bc BK182.out 1).trans rfl; have hcz10_2 : w4.cell? ⟨gb182, 2, none⟩ = some (.string (⟨#[]⟩ : ByteArray)) := (bc BK182.out 2).trans rfl; have hfz10_0 := bz BK182.out 0; have hfz10_1 := bz BK182.out 1; have hfz10_2 := bz BK182.out 2))
  refine bodyPost_ret (results_cell_row rfl _ _ gb182 27 #[.int .i64 a0_0, .int .i64 a0_1, .string a0_2] (0, 0) _ rfl (by (with_reducible repeat first | apply bN | apply bd | apply ba); refine blk_put (cs := #[.int .i64 a0_0, .int .i64 a0_1, .string (⟨#[]⟩ : ByteArray)]) ?_ 2 _ rfl; (with_reducible repeat first | apply bN | apply bd | apply ba); refine blk_put (cs := #[.int .i64 a0_0, .int .i64 0, .string (⟨#[]⟩ : ByteArray)]) ?_ 1 _ rfl; (with_reducible repeat first | apply bN | apply bd | apply ba); refine blk_put (cs := #[.int .i64 0, .int .i64 0, .string (⟨#[]⟩ : ByteArray)]) ?_ 0 _ rfl; (with_reducible repeat first | apply bN | apply bd | apply ba); refine blk_far ?_ NB182_183.out _; (with_reducible repeat first | apply bN | apply bd | apply ba); refine blk_far ?_ NB182_183.out _; (with_reducible repeat first | apply bN | apply bd | apply ba); refine blk_far ?_ NB182_183.out _; (with_reducible repeat first | apply bN | apply bd | apply ba); exact BK182.out) Try.underlying27 rfl (by kernel_rfl)) rfl ?_
  exact ⟨by first | rfl | (simp [errW_none, errW_some] <;> rfl) | (simp [*, errW_none, errW_some] <;> rfl), by repeat (first | (with_reducible first | exact HB.out | apply wa | apply wN | apply wd | refine ws ?_ GE181.out | refine ws ?_ GE182.out | refine ws ?_ GE183.out) | exact HB.out)⟩

end Go.Proofs.Ytfinjkjnoobbjaa.MFnExactJobsOk
