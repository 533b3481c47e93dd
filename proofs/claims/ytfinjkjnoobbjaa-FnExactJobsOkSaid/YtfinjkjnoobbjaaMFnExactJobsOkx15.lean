/- Made by a program of this session (out of the kit's print, with hand-made contracts): what each Go function that the law reaches computes, and that the machine's call does so. -/
import Derived.Test.YtfinjkjnoobbjaaXFnExactJobsOkMyReg
import Derived.Test.YtfinjkjnoobbjaaMFnExactJobsOkx0
import Derived.Test.YtfinjkjnoobbjaaMFnExactJobsOkx14
namespace Go.Proofs.Ytfinjkjnoobbjaa.MFnExactJobsOk
open Go.RowKit Go.Proofs.YtfinjkjnoobbjaaW.PrintWords Go.Proofs.YtfinjkjnoobbjaaW.PrintLast Go.Proofs.YtfinjkjnoobbjaaW.PrintMore Go.Proofs.Ytfinjkjnoobbjaa.MyReg
attribute [local go_sem] max2_int min2_int max_two min_two max_three min_three max_four min_four   -- for this text's walks alone
set_option linter.unusedVariables false
set_option linter.unusedSimpArgs false

/-! ### impl_isJob: function 121 -/
mutual
def impl_isJob.j0 : Nat → Int → List Int → Int → Bool → Int → Int → ByteArray → Int → Int → Int → Int → List (S84) → Int → Int → List Int → Int → Bool → Int → Int → List (S143) → List (S141) → List Int → Int → Int → Bool → Option (Bool)
  | 0, _, _, _, _, _, _, _, _, _, _, _, _, _, _, _, _, _, _, _, _, _, _, _, _, _ => none
  | k + 1, x1, x8, x9, x56, x274000, x274001, x274002, x274003, x274004, x274005, x274006, x274007, x274008, x274009, x274010, x274011, x274012, x274013, x274014, x274015, x274016, x274017, x277000, x277001, x277002 => if x56 = true then (some false) else (if 0 ≤ x1 then (if x1 ≤ (x274016.length : Int) then ((impl_isJob_1.f (x274016.take (x1 : Int).toNat) x277000 x277001 x277002).bind fun t283 => (if t283 = true then (impl_isJob.j1 k x8 x9 true x274000 x274001 x274002 x274003 x274004 x274005 x274006 x274007 x274008 x274009 x274010 x274011 x274012 x274013 x274014 x274015 x274016 x274017 x277000 x277001 x277002) else (if 0 ≤ x9 then (if x9 < (x274007.length : Int) then (if 0 ≤ x277001 then (if x277001 < (x8.length : Int) then (impl_isJob.j1 k x8 x9 (((rd_T84 x274007 x9).f1) != (rd x8 x277001)) x274000 x274001 x274002 x274003 x274004 x274005 x274006 x274007 x274008 x274009 x274010 x274011 x274012 x274013 x274014 x274015 x274016 x274017 x277000 x277001 x277002) else (none)) else (none)) else (none)) else (none)))) else (none)) else (none))
def impl_isJob.j1 : Nat → List Int → Int → Bool → Int → Int → ByteArray → Int → Int → Int → Int → List (S84) → Int → Int → List Int → Int → Bool → Int → Int → List (S143) → List (S141) → List Int → Int → Int → Bool → Option (Bool)
  | 0, _, _, _, _, _, _, _, _, _, _, _, _, _, _, _, _, _, _, _, _, _, _, _, _ => none
  | k + 1, x8, x9, x76, x274000, x274001, x274002, x274003, x274004, x274005, x274006, x274007, x274008, x274009, x274010, x274011, x274012, x274013, x274014, x274015, x274016, x274017, x277000, x277001, x277002 => if x76 = true then (some false) else (if x277002 = true then (if x277001 < x274013 then (if 0 ≤ x9 then (if x9 < (x274007.length : Int) then (if 0 ≤ (wrap64 (x277001 + 1)) then (if (wrap64 (x277001 + 1)) < (x8.length : Int) then (some (((rd_T84 x274007 x9).f2) == (rd x8 (wrap64 (x277001 + 1))))) else (none)) else (none)) else (none)) else (none)) else (some false)) else (if 0 ≤ x9 then (if x9 < (x274007.length : Int) then (some (((rd_T84 x274007 x9).f2) == (-1))) else (none)) else (none)))
end
def impl_isJob.f (k : Nat) (a0_0 : Int) (a0_1 : Int) (a0_2 : ByteArray) (a0_3 : Int) (a0_4 : Int) (a0_5 : Int) (a0_6 : Int) (l0_7 : List (S84)) (a0_8 : Int) (a0_9 : Int) (l0_10 : List Int) (a0_11 : Int) (a0_12 : Bool) (a0_13 : Int) (a0_14 : Int) (l0_15 : List (S143)) (l0_16 : List (S141)) (l0_17 : List Int) (a1 : Int) (a2 : Int) : Option (Bool) := if 0 ≤ a1 then (if a1 < (l0_16.length : Int) then (if a1 < (l0_15.length : Int) then ((impl_RobotAt.f l0_7 ((rd_T141 l0_16 a1).f0)).bind fun t277 => (if t277 < 0 then (impl_isJob.j0 k a1 ((rd_T143 l0_15 a1).f0) t277 true a0_0 a0_1 a0_2 a0_3 a0_4 a0_5 a0_6 l0_7 a0_8 a0_9 l0_10 a0_11 a0_12 a0_13 a0_14 l0_15 l0_16 l0_17 ((rd_T141 l0_16 a1).f0) ((rd_T141 l0_16 a1).f1) ((rd_T141 l0_16 a1).f2)) else (if 0 ≤ t277 then (if t277 < (l0_7.length : Int) then (if (rd_T84 l0_7 t277).f3 = true then (impl_isJob.j0 k a1 ((rd_T143 l0_15 a1).f0) t277 true a0_0 a0_1 a0_2 a0_3 a0_4 a0_5 a0_6 l0_7 a0_8 a0_9 l0_10 a0_11 a0_12 a0_13 a0_14 l0_15 l0_16 l0_17 ((rd_T141 l0_16 a1).f0) ((rd_T141 l0_16 a1).f1) ((rd_T141 l0_16 a1).f2)) else (if ((rd_T141 l0_16 a1).f1) < 0 then (impl_isJob.j0 k a1 ((rd_T143 l0_15 a1).f0) t277 true a0_0 a0_1 a0_2 a0_3 a0_4 a0_5 a0_6 l0_7 a0_8 a0_9 l0_10 a0_11 a0_12 a0_13 a0_14 l0_15 l0_16 l0_17 ((rd_T141 l0_16 a1).f0) ((rd_T141 l0_16 a1).f1) ((rd_T141 l0_16 a1).f2)) else (if ((rd_T141 l0_16 a1).f1) > a0_13 then (impl_isJob.j0 k a1 ((rd_T143 l0_15 a1).f0) t277 true a0_0 a0_1 a0_2 a0_3 a0_4 a0_5 a0_6 l0_7 a0_8 a0_9 l0_10 a0_11 a0_12 a0_13 a0_14 l0_15 l0_16 l0_17 ((rd_T141 l0_16 a1).f0) ((rd_T141 l0_16 a1).f1) ((rd_T141 l0_16 a1).f2)) else (impl_isJob.j0 k a1 ((rd_T143 l0_15 a1).f0) t277 (decide (((rd_T141 l0_16 a1).f1) > (wrap64 (a2 + 1)))) a0_0 a0_1 a0_2 a0_3 a0_4 a0_5 a0_6 l0_7 a0_8 a0_9 l0_10 a0_11 a0_12 a0_13 a0_14 l0_15 l0_16 l0_17 ((rd_T141 l0_16 a1).f0) ((rd_T141 l0_16 a1).f1) ((rd_T141 l0_16 a1).f2))))) else (none)) else (none)))) else (none)) else (none)) else (none)
theorem impl_isJob.mono_l : ∀ k, (∀ y0 y1 y2 y3 y4 y5 y6 y7 y8 y9 y10 y11 y12 y13 y14 y15 y16 y17 y18 y19 y20 y21 y22 y23 y24, LeO (impl_isJob.j0 k y0 y1 y2 y3 y4 y5 y6 y7 y8 y9 y10 y11 y12 y13 y14 y15 y16 y17 y18 y19 y20 y21 y22 y23 y24) (impl_isJob.j0 (k + 1) y0 y1 y2 y3 y4 y5 y6 y7 y8 y9 y10 y11 y12 y13 y14 y15 y16 y17 y18 y19 y20 y21 y22 y23 y24)) ∧ (∀ y0 y1 y2 y3 y4 y5 y6 y7 y8 y9 y10 y11 y12 y13 y14 y15 y16 y17 y18 y19 y20 y21 y22 y23, LeO (impl_isJob.j1 k y0 y1 y2 y3 y4 y5 y6 y7 y8 y9 y10 y11 y12 y13 y14 y15 y16 y17 y18 y19 y20 y21 y22 y23) (impl_isJob.j1 (k + 1) y0 y1 y2 y3 y4 y5 y6 y7 y8 y9 y10 y11 y12 y13 y14 y15 y16 y17 y18 y19 y20 y21 y22 y23))
  | 0 => ⟨fun _ _ _ _ _ _ _ _ _ _ _ _ _ _ _ _ _ _ _ _ _ _ _ _ _ r h => by simp [impl_isJob.j0] at h, fun _ _ _ _ _ _ _ _ _ _ _ _ _ _ _ _ _ _ _ _ _ _ _ _ r h => by simp [impl_isJob.j1] at h⟩
  | k + 1 => by
    obtain ⟨ih0, ih1⟩ := impl_isJob.mono_l k
    refine ⟨?_, ?_⟩
    · intro y0 y1 y2 y3 y4 y5 y6 y7 y8 y9 y10 y11 y12 y13 y14 y15 y16 y17 y18 y19 y20 y21 y22 y23 y24
      unfold impl_isJob.j0
      repeat' first
      | (with_reducible exact ih0 _ _ _ _ _ _ _ _ _ _ _ _ _ _ _ _ _ _ _ _ _ _ _ _ _)
      | (with_reducible exact ih1 _ _ _ _ _ _ _ _ _ _ _ _ _ _ _ _ _ _ _ _ _ _ _ _)
      | (with_reducible exact LeO.refl _)
      | (with_reducible exact LeO.none _)
      | (with_reducible refine LeO.ite ?_ ?_)
      | (with_reducible refine LeO.bind ?_ (fun _ => ?_))
      | exact ih0 _ _ _ _ _ _ _ _ _ _ _ _ _ _ _ _ _ _ _ _ _ _ _ _ _
      | exact ih1 _ _ _ _ _ _ _ _ _ _ _ _ _ _ _ _ _ _ _ _ _ _ _ _
      | exact LeO.none _
      | refine LeO.ite ?_ ?_
      | refine LeO.bind ?_ (fun _ => ?_)
    · intro y0 y1 y2 y3 y4 y5 y6 y7 y8 y9 y10 y11 y12 y13 y14 y15 y16 y17 y18 y19 y20 y21 y22 y23
      unfold impl_isJob.j1
      repeat' first
      | (with_reducible exact ih0 _ _ _ _ _ _ _ _ _ _ _ _ _ _ _ _ _ _ _ _ _ _ _ _ _)
      | (with_reducible exact ih1 _ _ _ _ _ _ _ _ _ _ _ _ _ _ _ _ _ _ _ _ _ _ _ _)
      | (with_reducible exact LeO.refl _)
      | (with_reducible exact LeO.none _)
      | (with_reducible refine LeO.ite ?_ ?_)
      | (with_reducible refine LeO.bind ?_ (fun _ => ?_))
      | exact ih0 _ _ _ _ _ _ _ _ _ _ _ _ _ _ _ _ _ _ _ _ _ _ _ _ _
      | exact ih1 _ _ _ _ _ _ _ _ _ _ _ _ _ _ _ _ _ _ _ _ _ _ _ _
      | exact LeO.none _
      | refine LeO.ite ?_ ?_
      | refine LeO.bind ?_ (fun _ => ?_)
theorem impl_isJob.mono : ∀ a0 a1 a2 a3 a4 a5 a6 a7 a8 a9 a10 a11 a12 a13 a14 a15 a16 a17 a18 a19 k, LeO (impl_isJob.f k a0 a1 a2 a3 a4 a5 a6 a7 a8 a9 a10 a11 a12 a13 a14 a15 a16 a17 a18 a19) (impl_isJob.f (k + 1) a0 a1 a2 a3 a4 a5 a6 a7 a8 a9 a10 a11 a12 a13 a14 a15 a16 a17 a18 a19) := by
  intro a0 a1 a2 a3 a4 a5 a6 a7 a8 a9 a10 a11 a12 a13 a14 a15 a16 a17 a18 a19 k
  obtain ⟨ih0, ih1⟩ := impl_isJob.mono_l k
  unfold impl_isJob.f
  repeat' first
      | (with_reducible exact ih0 _ _ _ _ _ _ _ _ _ _ _ _ _ _ _ _ _ _ _ _ _ _ _ _ _)
      | (with_reducible exact ih1 _ _ _ _ _ _ _ _ _ _ _ _ _ _ _ _ _ _ _ _ _ _ _ _)
      | (with_reducible exact LeO.refl _)
      | (with_reducible exact LeO.none _)
      | (with_reducible refine LeO.ite ?_ ?_)
      | (with_reducible refine LeO.bind ?_ (fun _ => ?_))
      | exact ih0 _ _ _ _ _ _ _ _ _ _ _ _ _ _ _ _ _ _ _ _ _ _ _ _ _
      | exact ih1 _ _ _ _ _ _ _ _ _ _ _ _ _ _ _ _ _ _ _ _ _ _ _ _
      | exact LeO.none _
      | refine LeO.ite ?_ ?_
      | refine LeO.bind ?_ (fun _ => ?_)
def impl_isJob.T1 : Bool × List (List Nat × List Nat) := (true, [([], []), ([0], [0]), ([], []), ([1, 2], [1, 2]), ([3], [3]), ([], []), ([5], [5]), ([6], [6]), ([], []), ([7, 8], [7, 8]), ([9], [9]), ([10], [10]), ([], []), ([12, 4, 0, 1, 2, 3, 4, 12], [4, 12]), ([11, 13, 0, 1, 2, 3, 4, 5, 6, 7, 8, 9, 10, 11, 12, 13], [11])])
def impl_isJob.B1 : List Nat := [0, 1, 0, 7, 15, 0, 32, 96, 0, 480, 992, 2016, 0, 4127, 16383]
theorem impl_isJob.tab1 : rtab .any (opsOf Try.f121 1) = impl_isJob.T1 := by kernel_rfl
theorem impl_isJob.bits1 : waitsOk impl_isJob.T1.2 impl_isJob.B1 = true := by kernel_rfl
def impl_isJob.T5 : Bool × List (List Nat × List Nat) := (true, [([], []), ([0], [0]), ([], []), ([1, 2], [1, 2]), ([], []), ([3, 4], [3, 4]), ([5, 5], [5]), ([6], [6]), ([7, 6], [6, 7]), ([6], [6]), ([8, 9, 6], [6, 8, 9]), ([10, 6], [6, 10]), ([11, 6], [6, 11]), ([6], [6]), ([6], [6]), ([14, 6], [6, 14]), ([13, 15, 6], [6, 13, 15]), ([16, 6], [6, 16]), ([12, 17, 6], [6, 12, 17]), ([6, 18], [6, 18])])
def impl_isJob.B5 : List Nat := [0, 1, 0, 7, 0, 31, 63, 127, 255, 127, 1023, 2047, 4095, 127, 127, 16511, 57471, 123007, 262143, 524287]
theorem impl_isJob.tab5 : rtab .any (opsOf Try.f121 5) = impl_isJob.T5 := by kernel_rfl
theorem impl_isJob.bits5 : waitsOk impl_isJob.T5.2 impl_isJob.B5 = true := by kernel_rfl
def impl_isJob.T8 : Bool × List (List Nat × List Nat) := (true, [([], []), ([0], [0]), ([], []), ([2], [2]), ([3], [3]), ([1, 4], [1, 4]), ([5], [5]), ([6], [6]), ([7, 6], [6, 7]), ([6], [6]), ([8, 9, 6], [6, 8, 9]), ([10, 6], [6, 10]), ([11, 6], [6, 11]), ([6], [6]), ([6], [6]), ([14, 6], [6, 14]), ([15, 6], [6, 15]), ([13, 16, 6], [6, 13, 16]), ([17, 6], [6, 17]), ([12, 18, 6], [6, 12, 18]), ([6, 19], [6, 19]), ([20, 6, 0, 1, 2, 3, 4, 5, 6, 7, 8, 9, 10, 11, 12, 13, 14, 15, 16, 17, 18, 19, 20], [20])])
def impl_isJob.B8 : List Nat := [0, 1, 0, 4, 12, 31, 63, 127, 255, 127, 1023, 2047, 4095, 127, 127, 16511, 49279, 123007, 254079, 524287, 1048575, 2097151]
theorem impl_isJob.tab8 : rtab .any (opsOf Try.f121 8) = impl_isJob.T8 := by kernel_rfl
theorem impl_isJob.bits8 : waitsOk impl_isJob.T8.2 impl_isJob.B8 = true := by kernel_rfl
set_option maxHeartbeats 8000000 in
set_option maxRecDepth 100000 in
theorem impl_isJob.calls (k : Nat) (a0_0 : Int) (a0_1 : Int) (a0_2 : ByteArray) (a0_3 : Int) (a0_4 : Int) (a0_5 : Int) (a0_6 : Int) (A0_7 : Option Addr) (c0_7 : Nat) (l0_7 : List (S84)) (a0_8 : Int) (a0_9 : Int) (A0_10 : Option Addr) (c0_10 : Nat) (l0_10 : List Int) (a0_11 : Int) (a0_12 : Bool) (a0_13 : Int) (a0_14 : Int) (A0_15 : Option Addr) (c0_15 : Nat) (l0_15 : List (S143)) (A0_16 : Option Addr) (c0_16 : Nat) (l0_16 : List (S141)) (A0_17 : Option Addr) (c0_17 : Nat) (l0_17 : List Int) (a1 : Int) (a2 : Int) (r : Bool) (w : World) (hr0_7 : Kd.C k84 w A0_7 l0_7.length l0_7) (hc0_7 : l0_7.length ≤ c0_7) (hr0_10 : Kd.C (Kd.int .i64) w A0_10 l0_10.length l0_10) (hc0_10 : l0_10.length ≤ c0_10) (hr0_15 : Kd.C k143 w A0_15 l0_15.length l0_15) (hc0_15 : l0_15.length ≤ c0_15) (hr0_16 : Kd.C k141 w A0_16 l0_16.length l0_16) (hc0_16 : l0_16.length ≤ c0_16) (hr0_17 : Kd.C (Kd.int .i64) w A0_17 l0_17.length l0_17) (hc0_17 : l0_17.length ≤ c0_17) (h : impl_isJob.f k a0_0 a0_1 a0_2 a0_3 a0_4 a0_5 a0_6 l0_7 a0_8 a0_9 l0_10 a0_11 a0_12 a0_13 a0_14 l0_15 l0_16 l0_17 a1 a2 = some r) :
    Calls Try.prog 121 #[.agg #[.int .i64 a0_0, .int .i64 a0_1, .string a0_2, .int .i64 a0_3, .int .i64 a0_4, .int .i64 a0_5, .int .i64 a0_6, .slice A0_7 l0_7.length c0_7, .int .i64 a0_8, .int .i64 a0_9, .slice A0_10 l0_10.length c0_10, .int .i64 a0_11, .bool a0_12, .int .i64 a0_13, .int .i64 a0_14, .slice A0_15 l0_15.length c0_15, .slice A0_16 l0_16.length c0_16, .slice A0_17 l0_17.length c0_17], .int .i64 a1, .int .i64 a2] w fun e w' => e = .returned (.bool r) ∧ Below w.heap.size w w' := by
  have hu39 := Try.underlying39
  have hu141 := Try.underlying141
  have HR0_7 := Aside0.mk hr0_7
  have HC0_7 := Aside0.mk hc0_7
  clear hr0_7 hc0_7
  have HR0_10 := Aside0.mk hr0_10
  have HC0_10 := Aside0.mk hc0_10
  clear hr0_10 hc0_10
  have HR0_15 := Aside0.mk hr0_15
  have HC0_15 := Aside0.mk hc0_15
  clear hr0_15 hc0_15
  have HR0_16 := Aside0.mk hr0_16
  have HC0_16 := Aside0.mk hc0_16
  clear hr0_16 hc0_16
  have HR0_17 := Aside0.mk hr0_17
  have HC0_17 := Aside0.mk hc0_17
  clear hr0_17 hc0_17
  have HB := Aside0.mk (Below.refl w.heap.size w)
  have H : (if 0 ≤ a1 then (if a1 < (l0_16.length : Int) then (if a1 < (l0_15.length : Int) then ((impl_RobotAt.f l0_7 ((rd_T141 l0_16 a1).f0)).bind fun t277 => (if t277 < 0 then (impl_isJob.j0 k a1 ((rd_T143 l0_15 a1).f0) t277 true a0_0 a0_1 a0_2 a0_3 a0_4 a0_5 a0_6 l0_7 a0_8 a0_9 l0_10 a0_11 a0_12 a0_13 a0_14 l0_15 l0_16 l0_17 ((rd_T141 l0_16 a1).f0) ((rd_T141 l0_16 a1).f1) ((rd_T141 l0_16 a1).f2)) else (if 0 ≤ t277 then (if t277 < (l0_7.length : Int) then (if (rd_T84 l0_7 t277).f3 = true then (impl_isJob.j0 k a1 ((rd_T143 l0_15 a1).f0) t277 true a0_0 a0_1 a0_2 a0_3 a0_4 a0_5 a0_6 l0_7 a0_8 a0_9 l0_10 a0_11 a0_12 a0_13 a0_14 l0_15 l0_16 l0_17 ((rd_T141 l0_16 a1).f0) ((rd_T141 l0_16 a1).f1) ((rd_T141 l0_16 a1).f2)) else (if ((rd_T141 l0_16 a1).f1) < 0 then (impl_isJob.j0 k a1 ((rd_T143 l0_15 a1).f0) t277 true a0_0 a0_1 a0_2 a0_3 a0_4 a0_5 a0_6 l0_7 a0_8 a0_9 l0_10 a0_11 a0_12 a0_13 a0_14 l0_15 l0_16 l0_17 ((rd_T141 l0_16 a1).f0) ((rd_T141 l0_16 a1).f1) ((rd_T141 l0_16 a1).f2)) else (if ((rd_T141 l0_16 a1).f1) > a0_13 then (impl_isJob.j0 k a1 ((rd_T143 l0_15 a1).f0) t277 true a0_0 a0_1 a0_2 a0_3 a0_4 a0_5 a0_6 l0_7 a0_8 a0_9 l0_10 a0_11 a0_12 a0_13 a0_14 l0_15 l0_16 l0_17 ((rd_T141 l0_16 a1).f0) ((rd_T141 l0_16 a1).f1) ((rd_T141 l0_16 a1).f2)) else (impl_isJob.j0 k a1 ((rd_T143 l0_15 a1).f0) t277 (decide (((rd_T141 l0_16 a1).f1) > (wrap64 (a2 + 1)))) a0_0 a0_1 a0_2 a0_3 a0_4 a0_5 a0_6 l0_7 a0_8 a0_9 l0_10 a0_11 a0_12 a0_13 a0_14 l0_15 l0_16 l0_17 ((rd_T141 l0_16 a1).f0) ((rd_T141 l0_16 a1).f1) ((rd_T141 l0_16 a1).f2))))) else (none)) else (none)))) else (none)) else (none)) else (none)) = some r := h
  clear h
  by_cases c4 : 0 ≤ a1
  rotate_left
  · rw [if_neg c4] at H
    exact absurd H (by simp)
  rw [if_pos c4] at H
  have c4b0 : decide (0 ≤ a1) = true := decide_eq_true c4
  clear c4
  by_cases c5 : a1 < (l0_16.length : Int)
  rotate_left
  · rw [if_neg c5] at H
    exact absurd H (by simp)
  rw [if_pos c5] at H
  have c5b0 : decide (a1 < (l0_16.length : Int)) = true := decide_eq_true c5
  clear c5
  by_cases c6 : a1 < (l0_15.length : Int)
  rotate_left
  · rw [if_neg c6] at H
    exact absurd H (by simp)
  rw [if_pos c6] at H
  have c6b0 : decide (a1 < (l0_15.length : Int)) = true := decide_eq_true c6
  clear c6
  replace H := Option.bind_eq_some_iff.mp H
  obtain ⟨t277, A70, H⟩ := H
  replace H : (if t277 < 0 then (impl_isJob.j0 k a1 ((rd_T143 l0_15 a1).f0) t277 true a0_0 a0_1 a0_2 a0_3 a0_4 a0_5 a0_6 l0_7 a0_8 a0_9 l0_10 a0_11 a0_12 a0_13 a0_14 l0_15 l0_16 l0_17 ((rd_T141 l0_16 a1).f0) ((rd_T141 l0_16 a1).f1) ((rd_T141 l0_16 a1).f2)) else (if 0 ≤ t277 then (if t277 < (l0_7.length : Int) then (if (rd_T84 l0_7 t277).f3 = true then (impl_isJob.j0 k a1 ((rd_T143 l0_15 a1).f0) t277 true a0_0 a0_1 a0_2 a0_3 a0_4 a0_5 a0_6 l0_7 a0_8 a0_9 l0_10 a0_11 a0_12 a0_13 a0_14 l0_15 l0_16 l0_17 ((rd_T141 l0_16 a1).f0) ((rd_T141 l0_16 a1).f1) ((rd_T141 l0_16 a1).f2)) else (if ((rd_T141 l0_16 a1).f1) < 0 then (impl_isJob.j0 k a1 ((rd_T143 l0_15 a1).f0) t277 true a0_0 a0_1 a0_2 a0_3 a0_4 a0_5 a0_6 l0_7 a0_8 a0_9 l0_10 a0_11 a0_12 a0_13 a0_14 l0_15 l0_16 l0_17 ((rd_T141 l0_16 a1).f0) ((rd_T141 l0_16 a1).f1) ((rd_T141 l0_16 a1).f2)) else (if ((rd_T141 l0_16 a1).f1) > a0_13 then (impl_isJob.j0 k a1 ((rd_T143 l0_15 a1).f0) t277 true a0_0 a0_1 a0_2 a0_3 a0_4 a0_5 a0_6 l0_7 a0_8 a0_9 l0_10 a0_11 a0_12 a0_13 a0_14 l0_15 l0_16 l0_17 ((rd_T141 l0_16 a1).f0) ((rd_T141 l0_16 a1).f1) ((rd_T141 l0_16 a1).f2)) else (impl_isJob.j0 k a1 ((rd_T143 l0_15 a1).f0) t277 (decide (((rd_T141 l0_16 a1).f1) > (wrap64 (a2 + 1)))) a0_0 a0_1 a0_2 a0_3 a0_4 a0_5 a0_6 l0_7 a0_8 a0_9 l0_10 a0_11 a0_12 a0_13 a0_14 l0_15 l0_16 l0_17 ((rd_T141 l0_16 a1).f0) ((rd_T141 l0_16 a1).f1) ((rd_T141 l0_16 a1).f2))))) else (none)) else (none))) = some r := H
  have A7 := Aside0.mk A70
  clear A70
  have HC8 := Aside0.mk H
  clear H
  go_enter Try.func121, Try.ntmps121
  try go_wp2_with (first | ((with_reducible refine gate_dst (N := 3) rfl ?_); refine box_event ?hg (N := 3) ?hd (cs := #[.int .i64 a0_0, .int .i64 a0_1, .string a0_2, .int .i64 a0_3, .int .i64 a0_4, .int .i64 a0_5, .int .i64 a0_6, .slice A0_7 l0_7.length c0_7, .int .i64 a0_8, .int .i64 a0_9, .slice A0_10 l0_10.length c0_10, .int .i64 a0_11, .bool a0_12, .int .i64 a0_13, .int .i64 a0_14, .slice A0_15 l0_15.length c0_15, .slice A0_16 l0_16.length c0_16, .slice A0_17 l0_17.length c0_17]) (t := 39) ?hr ?_; (case hd => rfl); (case hg => rfl); (case hr => first | (go_simp; done) | (go_simp; rfl)); intro gb273 hg w9 hbox hb; have n0_ := Aside0.mk (below_step (by repeat (first | (with_reducible first | exact HB.out | apply wa | apply wN | apply wd) | exact HB.out)) hb); have n1_ := Aside0.mk (hbox); have n2_ := Aside0.mk ((by rw [hg]; exact (below_size (by repeat (first | (with_reducible first | exact HB.out | apply wa | apply wN | apply wd) | exact HB.out))) : w.heap.size ≤ gb273)); have n3_ := n2_; clear HB; have HB := n0_; have BK273 := n1_; have GW273 := n2_; have GE273 := n3_; clear n0_ n1_ n2_ n3_; clear hb hbox hg))
  have n0_ := Aside0.mk (bd BK273.out)
  have n1_ := Aside0.mk (wd HB.out)
  clear BK273
  clear HB
  have BK273 := n0_
  have HB := n1_
  clear n0_ n1_
  have p274 : 0 ≤ (a1 : Int) := of_decide_eq_true (by first | (with_reducible assumption) | assumption)
  have q274 : a1 < (l0_16.length : Int) := of_decide_eq_true (by first | (with_reducible assumption) | assumption)
  obtain ⟨ad274, e274, hx274_0, hx274_1, hx274_2⟩ := at_T141 HR0_16.out a1 p274 q274
  have hw274_2 := hx274_2
  have hw274_1 := hx274_1
  have hw274_0 := hx274_0
  cases e274
  replace hx274_0 := (HB.out.cell (World.block_lt_of_cell? w _ hx274_0)).trans hx274_0
  replace hx274_1 := (HB.out.cell (World.block_lt_of_cell? w _ hx274_1)).trans hx274_1
  replace hx274_2 := (HB.out.cell (World.block_lt_of_cell? w _ hx274_2)).trans hx274_2
  replace p274 := eq_true p274
  replace q274 := eq_true q274
  have p275 : 0 ≤ (a1 : Int) := of_decide_eq_true (by first | (with_reducible assumption) | assumption)
  have q275 : a1 < (l0_15.length : Int) := of_decide_eq_true (by first | (with_reducible assumption) | assumption)
  obtain ⟨ad275, A275_0, c275_0, e275, hx275_0, hl275_0, hi275_0⟩ := at_T143 HR0_15.out a1 p275 q275
  have hw275_0 := hx275_0
  cases e275
  replace hx275_0 := (HB.out.cell (World.block_lt_of_cell? w _ hx275_0)).trans hx275_0
  have HR275_0 := Aside0.mk hi275_0
  have HC275_0 := Aside0.mk hl275_0
  clear hi275_0 hl275_0
  replace p275 := eq_true p275
  replace q275 := eq_true q275
  refine start_ (n := 15) (S := fun w' => w'.cell? ⟨gb273, 15, none⟩ = some (.slice (some ad275) l0_15.length c0_15) ∧ w'.cell? ⟨gb273, 16, none⟩ = some (.slice (some ad274) l0_16.length c0_16) ∧ w'.cell? (ad274.add ((a1).toNat * 3)) = some (.int .i64 ((rd_T141 l0_16 a1).f0)) ∧ w'.cell? ⟨(ad274.add ((a1).toNat * 3)).block, (ad274.add ((a1).toNat * 3)).off + 1, none⟩ = some (.int .i64 ((rd_T141 l0_16 a1).f1)) ∧ w'.cell? ⟨(ad274.add ((a1).toNat * 3)).block, (ad274.add ((a1).toNat * 3)).off + 2, none⟩ = some (.bool ((rd_T141 l0_16 a1).f2)) ∧ w'.cell? (ad275.add (a1).toNat) = some (.slice A275_0 ((rd_T143 l0_15 a1).f0).length c275_0)) (ds := []) #[false, false, false, false, false, false, false, false, false, false, false, false, false, false, false] (by kernel_rfl) rfl rfl ⟨(bc BK273.out 15).trans rfl, (bc BK273.out 16).trans rfl, ((HB.out.cell (World.block_lt_of_cell? w _ hw274_0)).trans hw274_0), ((HB.out.cell (World.block_lt_of_cell? w _ hw274_1)).trans hw274_1), ((HB.out.cell (World.block_lt_of_cell? w _ hw274_2)).trans hw274_2), ((HB.out.cell (World.block_lt_of_cell? w _ hw275_0)).trans hw275_0)⟩ (fun hHeld => ?_); refine with_tabW impl_isJob.tab1 impl_isJob.bits1 (fun HT_ HW_ => ?_)
  generalize w9.drew = w10 at BK273 HB HR275_0 hx274_0 hx274_1 hx274_2 hx275_0 hHeld ⊢
  refine plan_ [(0, 10, 0), (2, 12, 0), (5, 15, 0), (6, 16, 0), (8, 18, 0), (1, 11, 2), (3, 13, 0), (4, 14, 2), (7, 17, 2), (9, 19, 0), (10, 20, 0), (11, 21, 2)] ?_
  repeat (first | (refine p0_ (v := ?_) (a' := ?_) HT_.out (by rfl) (by rfl) (by rfl) (by kernel_rfl) (by exact fun _ _ _ h => h) (Or.inl ⟨by rfl, ?_⟩) ?_ ?_; rotate_left; (· (intro w'; go_simp; with_reducible rfl)); rotate_left; (· (simp only [Act.put, List.setIfInBounds_toArray, List.set_cons_zero, List.set_cons_succ, i64_w, i32_w]; rfl))) | (refine p2_ (v := ?_) (a' := ?_) HT_.out HW_.out (by rfl) (by rfl) (by rfl) (by kernel_rfl) (by exact fun _ _ _ h => h) (Or.inl ⟨by rfl, ?_⟩) hHeld ?_ ?_; rotate_left; (· (rintro w' ⟨s0, s1, s2, s3, s4, s5⟩; go_simp; with_reducible rfl)); rotate_left; (· (simp only [Act.put, List.setIfInBounds_toArray, List.set_cons_zero, List.set_cons_succ, i64_w, i32_w]; rfl))))
  with_reducible refine end_ ?_
  refine one_ (i := 12) (N := some 7) #[true, true, true, true, true, true, true, true, true, true, true, true, true, false, false] rfl rfl (one_of HT_.out (by kernel_rfl)) (by decide) (fun K hK => ?_)
  refine box_step ?hg (N := 7) ?hd (cs := #[.int .i64 0, .int .i64 0, .bool false]) (t := 141) ?hr ?_; (case hd => rfl); (case hg => rfl); (case hr => first | (go_simp; done) | (go_simp; rfl))
  intro gb276 hg w11 hbox hb
  have n0_ := Aside0.mk (bb (g := gb273) (by first | (with_reducible exact BK273.out) | (with_reducible exact bN BK273.out _) | (with_reducible exact bd BK273.out) | ((with_reducible repeat first | apply bN | apply bd | apply ba); exact BK273.out)) hb)
  have n1_ := Aside0.mk (below_step (by repeat (first | (with_reducible first | exact HB.out | apply wa | apply wN | apply wd | refine ws ?_ GE273.out) | exact HB.out)) hb)
  have n2_ := Aside0.mk (hbox)
  have n3_ := Aside0.mk ((by rw [hg]; exact (below_size (by repeat (first | (with_reducible first | exact HB.out | apply wa | apply wN | apply wd | refine ws ?_ GE273.out) | exact HB.out))) : w.heap.size ≤ gb276))
  have n4_ := Aside0.mk ((by rw [hg]; exact (below_size (by repeat (first | (with_reducible first | exact HB.out | apply wa | apply wN | apply wd | refine ws ?_ GE273.out) | exact HB.out))) : w.heap.size ≤ gb276))
  have n5_ := Aside0.mk ((by rw [hg]; exact Nat.ne_of_lt (blk_lt (g := gb273) (by (with_reducible repeat first | apply bN | apply bd | apply ba); exact BK273.out)) : gb273 ≠ gb276))
  have n6_ := Aside0.mk ((by rw [hg]; exact Nat.ne_of_gt (blk_lt (g := gb273) (by (with_reducible repeat first | apply bN | apply bd | apply ba); exact BK273.out)) : gb276 ≠ gb273))
  clear BK273
  clear HB
  have BK273 := n0_
  have HB := n1_
  have BK276 := n2_
  have GW276 := n3_
  have GE276 := n4_
  have NB273_276 := n5_
  have NB276_273 := n6_
  clear n0_ n1_ n2_ n3_ n4_ n5_ n6_
  clear hb hbox hg
  refine hK.out _ _ ⟨(bc BK273.out 15).trans rfl, (bc BK273.out 16).trans rfl, ((HB.out.cell (World.block_lt_of_cell? w _ hw274_0)).trans hw274_0), ((HB.out.cell (World.block_lt_of_cell? w _ hw274_1)).trans hw274_1), ((HB.out.cell (World.block_lt_of_cell? w _ hw274_2)).trans hw274_2), ((HB.out.cell (World.block_lt_of_cell? w _ hw275_0)).trans hw275_0)⟩ (fun hHeld => ?_)
  clear hK K
  refine norm_ (a' := ?_) ?_ ?_
  rotate_left
  · show Act.put _ (some 7) _ = _
    simp only [Act.put, List.setIfInBounds_toArray, List.set_cons_zero, List.set_cons_succ, i64_w, i32_w]
    rfl
  refine one_ (i := 13) (N := none) #[true, true, true, true, true, true, true, true, true, true, true, true, true, true, false] rfl rfl (one_of HT_.out (by kernel_rfl)) (by decide) (fun K hK => ?_)
  have hs12 : w11.cell? ⟨gb276, 0, none⟩ = some (.int .i64 0) := (bc BK276.out 0).trans rfl
  have hfs12 := bz BK276.out 0
  have hns12_0 := NB273_276.out
  have hms12_0 := NB276_273.out
  have hs13 : w11.cell? ⟨gb276, 1, none⟩ = some (.int .i64 0) := (bc BK276.out 1).trans rfl
  have hfs13 := bz BK276.out 1
  have hns13_0 := NB273_276.out
  have hms13_0 := NB276_273.out
  have hs14 : w11.cell? ⟨gb276, 2, none⟩ = some (.bool false) := (bc BK276.out 2).trans rfl
  have hfs14 := bz BK276.out 2
  have hns14_0 := NB273_276.out
  have hms14_0 := NB276_273.out
  refine skip_ (w1 := ?_) (by rfl) rfl ?_ ?_
  rotate_left
  · go_simp
    rfl
  refine hK.out _ _ ⟨((cell_far (p := ⟨gb276, _, none⟩) NB273_276.out _).trans (((cell_far (p := ⟨gb276, _, none⟩) NB273_276.out _).trans (((cell_far (p := ⟨gb276, _, none⟩) NB273_276.out _).trans (hHeld.1)))))), ((cell_far (p := ⟨gb276, _, none⟩) NB273_276.out _).trans (((cell_far (p := ⟨gb276, _, none⟩) NB273_276.out _).trans (((cell_far (p := ⟨gb276, _, none⟩) NB273_276.out _).trans (hHeld.2.1)))))), ((cell_far (p := ⟨gb276, _, none⟩) (by first | exact Nat.ne_of_lt (Nat.lt_of_lt_of_le (by have := World.block_lt_of_cell? _ _ hw274_0; first | rwa [add_block] at this | exact this) GW276.out) | (rw [add_block]; exact Nat.ne_of_lt (Nat.lt_of_lt_of_le (by have := World.block_lt_of_cell? _ _ hw274_0; first | rwa [add_block] at this | exact this) GW276.out)) | (show (Addr.add _ _).block ≠ _; rw [add_block]; exact Nat.ne_of_lt (Nat.lt_of_lt_of_le (by have := World.block_lt_of_cell? _ _ hw274_0; first | rwa [add_block] at this | exact this) GW276.out)) | (dsimp only; exact Nat.ne_of_lt (Nat.lt_of_lt_of_le (by have := World.block_lt_of_cell? _ _ hw274_0; first | rwa [add_block] at this | exact this) GW276.out))) _).trans (((cell_far (p := ⟨gb276, _, none⟩) (by first | exact Nat.ne_of_lt (Nat.lt_of_lt_of_le (by have := World.block_lt_of_cell? _ _ hw274_0; first | rwa [add_block] at this | exact this) GW276.out) | (rw [add_block]; exact Nat.ne_of_lt (Nat.lt_of_lt_of_le (by have := World.block_lt_of_cell? _ _ hw274_0; first | rwa [add_block] at this | exact this) GW276.out)) | (show (Addr.add _ _).block ≠ _; rw [add_block]; exact Nat.ne_of_lt (Nat.lt_of_lt_of_le (by have := World.block_lt_of_cell? _ _ hw274_0; first | rwa [add_block] at this | exact this) GW276.out)) | (dsimp only; exact Nat.ne_of_lt (Nat.lt_of_lt_of_le (by have := World.block_lt_of_cell? _ _ hw274_0; first | rwa [add_block] at this | exact this) GW276.out))) _).trans (((cell_far (p := ⟨gb276, _, none⟩) (by first | exact Nat.ne_of_lt (Nat.lt_of_lt_of_le (by have := World.block_lt_of_cell? _ _ hw274_0; first | rwa [add_block] at this | exact this) GW276.out) | (rw [add_block]; exact Nat.ne_of_lt (Nat.lt_of_lt_of_le (by have := World.block_lt_of_cell? _ _ hw274_0; first | rwa [add_block] at this | exact this) GW276.out)) | (show (Addr.add _ _).block ≠ _; rw [add_block]; exact Nat.ne_of_lt (Nat.lt_of_lt_of_le (by have := World.block_lt_of_cell? _ _ hw274_0; first | rwa [add_block] at this | exact this) GW276.out)) | (dsimp only; exact Nat.ne_of_lt (Nat.lt_of_lt_of_le (by have := World.block_lt_of_cell? _ _ hw274_0; first | rwa [add_block] at this | exact this) GW276.out))) _).trans (hHeld.2.2.1)))))), ((cell_far (p := ⟨gb276, _, none⟩) (by first | exact Nat.ne_of_lt (Nat.lt_of_lt_of_le (by have := World.block_lt_of_cell? _ _ hw274_1; first | rwa [add_block] at this | exact this) GW276.out) | (rw [add_block]; exact Nat.ne_of_lt (Nat.lt_of_lt_of_le (by have := World.block_lt_of_cell? _ _ hw274_1; first | rwa [add_block] at this | exact this) GW276.out)) | (show (Addr.add _ _).block ≠ _; rw [add_block]; exact Nat.ne_of_lt (Nat.lt_of_lt_of_le (by have := World.block_lt_of_cell? _ _ hw274_1; first | rwa [add_block] at this | exact this) GW276.out)) | (dsimp only; exact Nat.ne_of_lt (Nat.lt_of_lt_of_le (by have := World.block_lt_of_cell? _ _ hw274_1; first | rwa [add_block] at this | exact this) GW276.out))) _).trans (((cell_far (p := ⟨gb276, _, none⟩) (by first | exact Nat.ne_of_lt (Nat.lt_of_lt_of_le (by have := World.block_lt_of_cell? _ _ hw274_1; first | rwa [add_block] at this | exact this) GW276.out) | (rw [add_block]; exact Nat.ne_of_lt (Nat.lt_of_lt_of_le (by have := World.block_lt_of_cell? _ _ hw274_1; first | rwa [add_block] at this | exact this) GW276.out)) | (show (Addr.add _ _).block ≠ _; rw [add_block]; exact Nat.ne_of_lt (Nat.lt_of_lt_of_le (by have := World.block_lt_of_cell? _ _ hw274_1; first | rwa [add_block] at this | exact this) GW276.out)) | (dsimp only; exact Nat.ne_of_lt (Nat.lt_of_lt_of_le (by have := World.block_lt_of_cell? _ _ hw274_1; first | rwa [add_block] at this | exact this) GW276.out))) _).trans (((cell_far (p := ⟨gb276, _, none⟩) (by first | exact Nat.ne_of_lt (Nat.lt_of_lt_of_le (by have := World.block_lt_of_cell? _ _ hw274_1; first | rwa [add_block] at this | exact this) GW276.out) | (rw [add_block]; exact Nat.ne_of_lt (Nat.lt_of_lt_of_le (by have := World.block_lt_of_cell? _ _ hw274_1; first | rwa [add_block] at this | exact this) GW276.out)) | (show (Addr.add _ _).block ≠ _; rw [add_block]; exact Nat.ne_of_lt (Nat.lt_of_lt_of_le (by have := World.block_lt_of_cell? _ _ hw274_1; first | rwa [add_block] at this | exact this) GW276.out)) | (dsimp only; exact Nat.ne_of_lt (Nat.lt_of_lt_of_le (by have := World.block_lt_of_cell? _ _ hw274_1; first | rwa [add_block] at this | exact this) GW276.out))) _).trans (hHeld.2.2.2.1)))))), ((cell_far (p := ⟨gb276, _, none⟩) (by first | exact Nat.ne_of_lt (Nat.lt_of_lt_of_le (by have := World.block_lt_of_cell? _ _ hw274_2; first | rwa [add_block] at this | exact this) GW276.out) | (rw [add_block]; exact Nat.ne_of_lt (Nat.lt_of_lt_of_le (by have := World.block_lt_of_cell? _ _ hw274_2; first | rwa [add_block] at this | exact this) GW276.out)) | (show (Addr.add _ _).block ≠ _; rw [add_block]; exact Nat.ne_of_lt (Nat.lt_of_lt_of_le (by have := World.block_lt_of_cell? _ _ hw274_2; first | rwa [add_block] at this | exact this) GW276.out)) | (dsimp only; exact Nat.ne_of_lt (Nat.lt_of_lt_of_le (by have := World.block_lt_of_cell? _ _ hw274_2; first | rwa [add_block] at this | exact this) GW276.out))) _).trans (((cell_far (p := ⟨gb276, _, none⟩) (by first | exact Nat.ne_of_lt (Nat.lt_of_lt_of_le (by have := World.block_lt_of_cell? _ _ hw274_2; first | rwa [add_block] at this | exact this) GW276.out) | (rw [add_block]; exact Nat.ne_of_lt (Nat.lt_of_lt_of_le (by have := World.block_lt_of_cell? _ _ hw274_2; first | rwa [add_block] at this | exact this) GW276.out)) | (show (Addr.add _ _).block ≠ _; rw [add_block]; exact Nat.ne_of_lt (Nat.lt_of_lt_of_le (by have := World.block_lt_of_cell? _ _ hw274_2; first | rwa [add_block] at this | exact this) GW276.out)) | (dsimp only; exact Nat.ne_of_lt (Nat.lt_of_lt_of_le (by have := World.block_lt_of_cell? _ _ hw274_2; first | rwa [add_block] at this | exact this) GW276.out))) _).trans (((cell_far (p := ⟨gb276, _, none⟩) (by first | exact Nat.ne_of_lt (Nat.lt_of_lt_of_le (by have := World.block_lt_of_cell? _ _ hw274_2; first | rwa [add_block] at this | exact this) GW276.out) | (rw [add_block]; exact Nat.ne_of_lt (Nat.lt_of_lt_of_le (by have := World.block_lt_of_cell? _ _ hw274_2; first | rwa [add_block] at this | exact this) GW276.out)) | (show (Addr.add _ _).block ≠ _; rw [add_block]; exact Nat.ne_of_lt (Nat.lt_of_lt_of_le (by have := World.block_lt_of_cell? _ _ hw274_2; first | rwa [add_block] at this | exact this) GW276.out)) | (dsimp only; exact Nat.ne_of_lt (Nat.lt_of_lt_of_le (by have := World.block_lt_of_cell? _ _ hw274_2; first | rwa [add_block] at this | exact this) GW276.out))) _).trans (hHeld.2.2.2.2.1)))))), ((cell_far (p := ⟨gb276, _, none⟩) (by first | exact Nat.ne_of_lt (Nat.lt_of_lt_of_le (by have := World.block_lt_of_cell? _ _ hw275_0; first | rwa [add_block] at this | exact this) GW276.out) | (rw [add_block]; exact Nat.ne_of_lt (Nat.lt_of_lt_of_le (by have := World.block_lt_of_cell? _ _ hw275_0; first | rwa [add_block] at this | exact this) GW276.out)) | (show (Addr.add _ _).block ≠ _; rw [add_block]; exact Nat.ne_of_lt (Nat.lt_of_lt_of_le (by have := World.block_lt_of_cell? _ _ hw275_0; first | rwa [add_block] at this | exact this) GW276.out)) | (dsimp only; exact Nat.ne_of_lt (Nat.lt_of_lt_of_le (by have := World.block_lt_of_cell? _ _ hw275_0; first | rwa [add_block] at this | exact this) GW276.out))) _).trans (((cell_far (p := ⟨gb276, _, none⟩) (by first | exact Nat.ne_of_lt (Nat.lt_of_lt_of_le (by have := World.block_lt_of_cell? _ _ hw275_0; first | rwa [add_block] at this | exact this) GW276.out) | (rw [add_block]; exact Nat.ne_of_lt (Nat.lt_of_lt_of_le (by have := World.block_lt_of_cell? _ _ hw275_0; first | rwa [add_block] at this | exact this) GW276.out)) | (show (Addr.add _ _).block ≠ _; rw [add_block]; exact Nat.ne_of_lt (Nat.lt_of_lt_of_le (by have := World.block_lt_of_cell? _ _ hw275_0; first | rwa [add_block] at this | exact this) GW276.out)) | (dsimp only; exact Nat.ne_of_lt (Nat.lt_of_lt_of_le (by have := World.block_lt_of_cell? _ _ hw275_0; first | rwa [add_block] at this | exact this) GW276.out))) _).trans (((cell_far (p := ⟨gb276, _, none⟩) (by first | exact Nat.ne_of_lt (Nat.lt_of_lt_of_le (by have := World.block_lt_of_cell? _ _ hw275_0; first | rwa [add_block] at this | exact this) GW276.out) | (rw [add_block]; exact Nat.ne_of_lt (Nat.lt_of_lt_of_le (by have := World.block_lt_of_cell? _ _ hw275_0; first | rwa [add_block] at this | exact this) GW276.out)) | (show (Addr.add _ _).block ≠ _; rw [add_block]; exact Nat.ne_of_lt (Nat.lt_of_lt_of_le (by have := World.block_lt_of_cell? _ _ hw275_0; first | rwa [add_block] at this | exact this) GW276.out)) | (dsimp only; exact Nat.ne_of_lt (Nat.lt_of_lt_of_le (by have := World.block_lt_of_cell? _ _ hw275_0; first | rwa [add_block] at this | exact this) GW276.out))) _).trans (hHeld.2.2.2.2.2))))))⟩ (fun hHeld => ?_)
  clear hK K
  refine pure_ (i := 14) (N := some 8) (v := ?_) (a' := ?_) #[true, true, true, true, true, true, true, true, true, true, true, true, true, true, true] rfl rfl (any_of HT_.out (by kernel_rfl)) (fun _ _ _ h => h) (Or.inl ⟨by rfl, ?_⟩) ?_ ?_
  rotate_left
  · intro w'
    go_simp
    with_reducible rfl
  rotate_left
  · simp only [Act.put, List.setIfInBounds_toArray, List.set_cons_zero, List.set_cons_succ, i64_w, i32_w]
    rfl
  refine done_ (done_of HT_.out (by kernel_rfl)) ?_
  have hnb15 := NB273_276.out
  have hnc15 := NB276_273.out
  have hcz16_7 : w11.cell? ⟨gb273, 7, none⟩ = some (.slice A0_7 l0_7.length c0_7) := (bc BK273.out 7).trans rfl
  have hcz16_13 : w11.cell? ⟨gb273, 13, none⟩ = some (.int .i64 a0_13) := (bc BK273.out 13).trans rfl
  have hcz16_15 : w11.cell? ⟨gb273, 15, none⟩ = some (.slice (some ad275) l0_15.length c0_15) := (bc BK273.out 15).trans rfl
  have hcz16_16 : w11.cell? ⟨gb273, 16, none⟩ = some (.slice (some ad274) l0_16.length c0_16) := (bc BK273.out 16).trans rfl
  have hcz17_0 : w11.cell? ⟨gb276, 0, none⟩ = some (.int .i64 0) := (bc BK276.out 0).trans rfl
  have hcz17_1 : w11.cell? ⟨gb276, 1, none⟩ = some (.int .i64 0) := (bc BK276.out 1).trans rfl
  have hcz17_2 : w11.cell? ⟨gb276, 2, none⟩ = some (.bool false) := (bc BK276.out 2).trans rfl
  have hfz17_0 := bz BK276.out 0
  have hfz17_1 := bz BK276.out 1
  have hfz17_2 := bz BK276.out 2
  go_upto_region 3 with (first | ((with_reducible refine gate_callee (f := 42) rfl ?_); refine goesL_ (some 26) rfl rfl Try.func42 (by kernel_rfl) rfl #[.slice A0_7 l0_7.length c0_7, .int .i64 ((rd_T141 l0_16 a1).f0)] rfl (by (try simp only [List.map_toArray, List.map_cons, List.map_nil]); first | done | rfl | (simp only [List.length_drop, List.length_take]; rfl)) ?_; (with_reducible refine (impl_RobotAt.calls _ _ l0_7 ((rd_T141 l0_16 a1).f0) t277 _ ?side1 ?side2 A7.out).mono ?_); (case side1 => exact Kd.C_below HR0_7.out (by repeat (first | (with_reducible first | exact HB.out | apply wa | apply wN | apply wd | refine ws ?_ GE273.out | refine ws ?_ GE276.out) | exact HB.out))); (case side2 => exact HC0_7.out); rintro e w18 ⟨rfl, hb⟩; refine ⟨_, rfl, ?_⟩; have n0_ := Aside0.mk (bb (g := gb273) (o := .cells #[.int .i64 a0_0, .int .i64 a0_1, .string a0_2, .int .i64 a0_3, .int .i64 a0_4, .int .i64 a0_5, .int .i64 a0_6, .slice A0_7 l0_7.length c0_7, .int .i64 a0_8, .int .i64 a0_9, .slice A0_10 l0_10.length c0_10, .int .i64 a0_11, .bool a0_12, .int .i64 a0_13, .int .i64 a0_14, .slice (some ad275) l0_15.length c0_15, .slice (some ad274) l0_16.length c0_16, .slice A0_17 l0_17.length c0_17] 39 (0, 0)) (by (with_reducible repeat first | apply bN | apply bd | apply ba); refine blk_far ?_ NB273_276.out _; (with_reducible repeat first | apply bN | apply bd | apply ba); refine blk_far ?_ NB273_276.out _; (with_reducible repeat first | apply bN | apply bd | apply ba); refine blk_far ?_ NB273_276.out _; (with_reducible repeat first | apply bN | apply bd | apply ba); exact BK273.out) hb); have n1_ := Aside0.mk (bb (g := gb276) (o := .cells #[.int .i64 ((rd_T141 l0_16 a1).f0), .int .i64 ((rd_T141 l0_16 a1).f1), .bool ((rd_T141 l0_16 a1).f2)] 141 (0, 0)) (by (with_reducible repeat first | apply bN | apply bd | apply ba); refine blk_put (cs := #[.int .i64 ((rd_T141 l0_16 a1).f0), .int .i64 ((rd_T141 l0_16 a1).f1), .bool false]) ?_ 2 _ rfl; (with_reducible repeat first | apply bN | apply bd | apply ba); refine blk_put (cs := #[.int .i64 ((rd_T141 l0_16 a1).f0), .int .i64 0, .bool false]) ?_ 1 _ rfl; (with_reducible repeat first | apply bN | apply bd | apply ba); refine blk_put (cs := #[.int .i64 0, .int .i64 0, .bool false]) ?_ 0 _ rfl; (with_reducible repeat first | apply bN | apply bd | apply ba); exact BK276.out) hb); have n2_ := Aside0.mk (below_step (by repeat (first | (with_reducible first | exact HB.out | apply wa | apply wN | apply wd | refine ws ?_ GE273.out | refine ws ?_ GE276.out) | exact HB.out)) hb); clear BK273; clear BK276; clear HB; have BK273 := n0_; have BK276 := n1_; have HB := n2_; clear n0_ n1_ n2_; (try clear hb); (try clear hb2); (try clear hk); (try clear hi)))
  (try simp only [Act.put, List.setIfInBounds_toArray, List.set_cons_zero, List.set_cons_succ])
  go_cut [56] (fun v56 wc => ∃ (kq : Nat) (x56_7 : Bool), v56 = .bool x56_7 ∧ Aside0 (impl_isJob.j0 kq a1 ((rd_T143 l0_15 a1).f0) t277 x56_7 a0_0 a0_1 a0_2 a0_3 a0_4 a0_5 a0_6 l0_7 a0_8 a0_9 l0_10 a0_11 a0_12 a0_13 a0_14 l0_15 l0_16 l0_17 ((rd_T141 l0_16 a1).f0) ((rd_T141 l0_16 a1).f1) ((rd_T141 l0_16 a1).f2) = some r) ∧ Aside0 (kq ≤ k) ∧ Aside0 (wc.heap[gb273]? = some (.cells #[.int .i64 a0_0, .int .i64 a0_1, .string a0_2, .int .i64 a0_3, .int .i64 a0_4, .int .i64 a0_5, .int .i64 a0_6, (.slice A0_7 l0_7.length c0_7), .int .i64 a0_8, .int .i64 a0_9, (.slice A0_10 l0_10.length c0_10), .int .i64 a0_11, .bool a0_12, .int .i64 a0_13, .int .i64 a0_14, (.slice (some ad275) l0_15.length c0_15), (.slice (some ad274) l0_16.length c0_16), (.slice A0_17 l0_17.length c0_17)] 39 (0, 0))) ∧ Aside0 (wc.heap[gb276]? = some (.cells #[.int .i64 ((rd_T141 l0_16 a1).f0), .int .i64 ((rd_T141 l0_16 a1).f1), .bool ((rd_T141 l0_16 a1).f2)] 141 (0, 0))) ∧ Aside0 (Below w.heap.size w wc))
  case first =>
    have H := HC8.out
    clear HC8
    by_cases c19 : t277 < 0
    · rw [if_pos c19] at H
      have c19b0 : decide (t277 < 0) = true := decide_eq_true c19
      clear c19
      (first | rw [c19b0] | (simp only [i64_w, i32_w]; rw [c19b0]) | skip)
      have H' := Aside0.mk H
      clear H
      go_wp2
      go_meet
      case rel => exact ⟨_, (true), (by first | rfl | (simp; done) | (simp [*]; done)), H', ⟨by first | omega | exact Nat.le_refl _⟩, ⟨by (with_reducible repeat first | apply bN | apply bd | apply ba); exact BK273.out⟩, ⟨by (with_reducible repeat first | apply bN | apply bd | apply ba); exact BK276.out⟩, ⟨by repeat (first | (with_reducible first | exact HB.out | apply wa | apply wN | apply wd | refine ws ?_ GE273.out | refine ws ?_ GE276.out) | exact HB.out)⟩⟩
    rw [if_neg c19] at H
    have c19b0 : decide (t277 < 0) = false := decide_eq_false c19
    clear c19
    (first | rw [c19b0] | (simp only [i64_w, i32_w]; rw [c19b0]) | skip)
    by_cases c20 : 0 ≤ t277
    rotate_left
    · rw [if_neg c20] at H
      exact absurd H (by simp)
    rw [if_pos c20] at H
    have c20b0 : decide (0 ≤ t277) = true := decide_eq_true c20
    clear c20
    by_cases c21 : t277 < (l0_7.length : Int)
    rotate_left
    · rw [if_neg c21] at H
      exact absurd H (by simp)
    rw [if_pos c21] at H
    have c21b0 : decide (t277 < (l0_7.length : Int)) = true := decide_eq_true c21
    clear c21
    obtain ⟨bq22, hbq22⟩ : ∃ b_ : Bool, b_ = ((rd_T84 l0_7 t277).f3) := ⟨_, rfl⟩
    replace H : (if bq22 = true then (impl_isJob.j0 k a1 ((rd_T143 l0_15 a1).f0) t277 true a0_0 a0_1 a0_2 a0_3 a0_4 a0_5 a0_6 l0_7 a0_8 a0_9 l0_10 a0_11 a0_12 a0_13 a0_14 l0_15 l0_16 l0_17 ((rd_T141 l0_16 a1).f0) ((rd_T141 l0_16 a1).f1) ((rd_T141 l0_16 a1).f2)) else (if ((rd_T141 l0_16 a1).f1) < 0 then (impl_isJob.j0 k a1 ((rd_T143 l0_15 a1).f0) t277 true a0_0 a0_1 a0_2 a0_3 a0_4 a0_5 a0_6 l0_7 a0_8 a0_9 l0_10 a0_11 a0_12 a0_13 a0_14 l0_15 l0_16 l0_17 ((rd_T141 l0_16 a1).f0) ((rd_T141 l0_16 a1).f1) ((rd_T141 l0_16 a1).f2)) else (if ((rd_T141 l0_16 a1).f1) > a0_13 then (impl_isJob.j0 k a1 ((rd_T143 l0_15 a1).f0) t277 true a0_0 a0_1 a0_2 a0_3 a0_4 a0_5 a0_6 l0_7 a0_8 a0_9 l0_10 a0_11 a0_12 a0_13 a0_14 l0_15 l0_16 l0_17 ((rd_T141 l0_16 a1).f0) ((rd_T141 l0_16 a1).f1) ((rd_T141 l0_16 a1).f2)) else (impl_isJob.j0 k a1 ((rd_T143 l0_15 a1).f0) t277 (decide (((rd_T141 l0_16 a1).f1) > (wrap64 (a2 + 1)))) a0_0 a0_1 a0_2 a0_3 a0_4 a0_5 a0_6 l0_7 a0_8 a0_9 l0_10 a0_11 a0_12 a0_13 a0_14 l0_15 l0_16 l0_17 ((rd_T141 l0_16 a1).f0) ((rd_T141 l0_16 a1).f1) ((rd_T141 l0_16 a1).f2))))) = some r := by rw [← hbq22] at H; exact H
    have Nbq22 := Aside0.mk hbq22
    clear hbq22
    by_cases c23 : bq22 = true
    · subst c23
      have H1 : (impl_isJob.j0 k a1 ((rd_T143 l0_15 a1).f0) t277 true a0_0 a0_1 a0_2 a0_3 a0_4 a0_5 a0_6 l0_7 a0_8 a0_9 l0_10 a0_11 a0_12 a0_13 a0_14 l0_15 l0_16 l0_17 ((rd_T141 l0_16 a1).f0) ((rd_T141 l0_16 a1).f1) ((rd_T141 l0_16 a1).f2)) = some r := by rw [if_pos rfl] at H; exact H
      clear H
      have H := H1
      clear H1
      have H' := Aside0.mk H
      clear H
      have hnb24 := NB273_276.out
      have hnc24 := NB276_273.out
      have hcz25_7 : w18.cell? ⟨gb273, 7, none⟩ = some (.slice A0_7 l0_7.length c0_7) := (bc BK273.out 7).trans rfl
      have hcz25_13 : w18.cell? ⟨gb273, 13, none⟩ = some (.int .i64 a0_13) := (bc BK273.out 13).trans rfl
      have hcz25_15 : w18.cell? ⟨gb273, 15, none⟩ = some (.slice (some ad275) l0_15.length c0_15) := (bc BK273.out 15).trans rfl
      have hcz25_16 : w18.cell? ⟨gb273, 16, none⟩ = some (.slice (some ad274) l0_16.length c0_16) := (bc BK273.out 16).trans rfl
      have p278 : 0 ≤ (t277 : Int) := of_decide_eq_true (by first | (with_reducible assumption) | assumption)
      have q278 : t277 < (l0_7.length : Int) := of_decide_eq_true (by first | (with_reducible assumption) | assumption)
      obtain ⟨ad278, e278, hx278_0, hx278_1, hx278_2, hx278_3⟩ := at_T84 HR0_7.out t277 p278 q278
      (try rw [← Nbq22.out] at hx278_3) <;> (try rw [← Nbq22.out] at hw278_3)
      cases e278
      replace hx278_0 := (HB.out.cell (World.block_lt_of_cell? w _ hx278_0)).trans hx278_0
      replace hx278_1 := (HB.out.cell (World.block_lt_of_cell? w _ hx278_1)).trans hx278_1
      replace hx278_2 := (HB.out.cell (World.block_lt_of_cell? w _ hx278_2)).trans hx278_2
      replace hx278_3 := (HB.out.cell (World.block_lt_of_cell? w _ hx278_3)).trans hx278_3
      replace p278 := eq_true p278
      replace q278 := eq_true q278
      go_wp2
      go_meet
      case rel => exact ⟨_, (true), (by first | rfl | (simp; done) | (simp [*]; done)), H', ⟨by first | omega | exact Nat.le_refl _⟩, ⟨by (with_reducible repeat first | apply bN | apply bd | apply ba); exact BK273.out⟩, ⟨by (with_reducible repeat first | apply bN | apply bd | apply ba); exact BK276.out⟩, ⟨by repeat (first | (with_reducible first | exact HB.out | apply wa | apply wN | apply wd | refine ws ?_ GE273.out | refine ws ?_ GE276.out) | exact HB.out)⟩⟩
    replace c23 := Bool.eq_false_iff.mpr c23
    subst c23
    have H1 : (if ((rd_T141 l0_16 a1).f1) < 0 then (impl_isJob.j0 k a1 ((rd_T143 l0_15 a1).f0) t277 true a0_0 a0_1 a0_2 a0_3 a0_4 a0_5 a0_6 l0_7 a0_8 a0_9 l0_10 a0_11 a0_12 a0_13 a0_14 l0_15 l0_16 l0_17 ((rd_T141 l0_16 a1).f0) ((rd_T141 l0_16 a1).f1) ((rd_T141 l0_16 a1).f2)) else (if ((rd_T141 l0_16 a1).f1) > a0_13 then (impl_isJob.j0 k a1 ((rd_T143 l0_15 a1).f0) t277 true a0_0 a0_1 a0_2 a0_3 a0_4 a0_5 a0_6 l0_7 a0_8 a0_9 l0_10 a0_11 a0_12 a0_13 a0_14 l0_15 l0_16 l0_17 ((rd_T141 l0_16 a1).f0) ((rd_T141 l0_16 a1).f1) ((rd_T141 l0_16 a1).f2)) else (impl_isJob.j0 k a1 ((rd_T143 l0_15 a1).f0) t277 (decide (((rd_T141 l0_16 a1).f1) > (wrap64 (a2 + 1)))) a0_0 a0_1 a0_2 a0_3 a0_4 a0_5 a0_6 l0_7 a0_8 a0_9 l0_10 a0_11 a0_12 a0_13 a0_14 l0_15 l0_16 l0_17 ((rd_T141 l0_16 a1).f0) ((rd_T141 l0_16 a1).f1) ((rd_T141 l0_16 a1).f2)))) = some r := by rw [if_neg (show ¬ (false = true) by decide)] at H; exact H
    clear H
    have H := H1
    clear H1
    by_cases c26 : ((rd_T141 l0_16 a1).f1) < 0
    · rw [if_pos c26] at H
      have c26b0 : decide (((rd_T141 l0_16 a1).f1) < 0) = true := decide_eq_true c26
      clear c26
      have H' := Aside0.mk H
      clear H
      have hnb27 := NB273_276.out
      have hnc27 := NB276_273.out
      have hcz28_7 : w18.cell? ⟨gb273, 7, none⟩ = some (.slice A0_7 l0_7.length c0_7) := (bc BK273.out 7).trans rfl
      have hcz28_13 : w18.cell? ⟨gb273, 13, none⟩ = some (.int .i64 a0_13) := (bc BK273.out 13).trans rfl
      have hcz28_15 : w18.cell? ⟨gb273, 15, none⟩ = some (.slice (some ad275) l0_15.length c0_15) := (bc BK273.out 15).trans rfl
      have hcz28_16 : w18.cell? ⟨gb273, 16, none⟩ = some (.slice (some ad274) l0_16.length c0_16) := (bc BK273.out 16).trans rfl
      have p278 : 0 ≤ (t277 : Int) := of_decide_eq_true (by first | (with_reducible assumption) | assumption)
      have q278 : t277 < (l0_7.length : Int) := of_decide_eq_true (by first | (with_reducible assumption) | assumption)
      obtain ⟨ad278, e278, hx278_0, hx278_1, hx278_2, hx278_3⟩ := at_T84 HR0_7.out t277 p278 q278
      (try rw [← Nbq22.out] at hx278_3) <;> (try rw [← Nbq22.out] at hw278_3)
      cases e278
      replace hx278_0 := (HB.out.cell (World.block_lt_of_cell? w _ hx278_0)).trans hx278_0
      replace hx278_1 := (HB.out.cell (World.block_lt_of_cell? w _ hx278_1)).trans hx278_1
      replace hx278_2 := (HB.out.cell (World.block_lt_of_cell? w _ hx278_2)).trans hx278_2
      replace hx278_3 := (HB.out.cell (World.block_lt_of_cell? w _ hx278_3)).trans hx278_3
      replace p278 := eq_true p278
      replace q278 := eq_true q278
      have hcz29_0 : w18.cell? ⟨gb276, 0, none⟩ = some (.int .i64 ((rd_T141 l0_16 a1).f0)) := (bc BK276.out 0).trans rfl
      have hcz29_1 : w18.cell? ⟨gb276, 1, none⟩ = some (.int .i64 ((rd_T141 l0_16 a1).f1)) := (bc BK276.out 1).trans rfl
      have hcz29_2 : w18.cell? ⟨gb276, 2, none⟩ = some (.bool ((rd_T141 l0_16 a1).f2)) := (bc BK276.out 2).trans rfl
      have hfz29_0 := bz BK276.out 0
      have hfz29_1 := bz BK276.out 1
      have hfz29_2 := bz BK276.out 2
      go_wp2
      go_meet
      case rel => exact ⟨_, (true), (by first | rfl | (simp; done) | (simp [*]; done)), H', ⟨by first | omega | exact Nat.le_refl _⟩, ⟨by (with_reducible repeat first | apply bN | apply bd | apply ba); exact BK273.out⟩, ⟨by (with_reducible repeat first | apply bN | apply bd | apply ba); exact BK276.out⟩, ⟨by repeat (first | (with_reducible first | exact HB.out | apply wa | apply wN | apply wd | refine ws ?_ GE273.out | refine ws ?_ GE276.out) | exact HB.out)⟩⟩
    rw [if_neg c26] at H
    have c26b0 : decide (((rd_T141 l0_16 a1).f1) < 0) = false := decide_eq_false c26
    clear c26
    by_cases c30 : ((rd_T141 l0_16 a1).f1) > a0_13
    · rw [if_pos c30] at H
      have c30b0 : decide (a0_13 < ((rd_T141 l0_16 a1).f1)) = true := decide_eq_true c30
      clear c30
      have H' := Aside0.mk H
      clear H
      have hnb31 := NB273_276.out
      have hnc31 := NB276_273.out
      have hcz32_7 : w18.cell? ⟨gb273, 7, none⟩ = some (.slice A0_7 l0_7.length c0_7) := (bc BK273.out 7).trans rfl
      have hcz32_13 : w18.cell? ⟨gb273, 13, none⟩ = some (.int .i64 a0_13) := (bc BK273.out 13).trans rfl
      have hcz32_15 : w18.cell? ⟨gb273, 15, none⟩ = some (.slice (some ad275) l0_15.length c0_15) := (bc BK273.out 15).trans rfl
      have hcz32_16 : w18.cell? ⟨gb273, 16, none⟩ = some (.slice (some ad274) l0_16.length c0_16) := (bc BK273.out 16).trans rfl
      have p278 : 0 ≤ (t277 : Int) := of_decide_eq_true (by first | (with_reducible assumption) | assumption)
      have q278 : t277 < (l0_7.length : Int) := of_decide_eq_true (by first | (with_reducible assumption) | assumption)
      obtain ⟨ad278, e278, hx278_0, hx278_1, hx278_2, hx278_3⟩ := at_T84 HR0_7.out t277 p278 q278
      (try rw [← Nbq22.out] at hx278_3) <;> (try rw [← Nbq22.out] at hw278_3)
      cases e278
      replace hx278_0 := (HB.out.cell (World.block_lt_of_cell? w _ hx278_0)).trans hx278_0
      replace hx278_1 := (HB.out.cell (World.block_lt_of_cell? w _ hx278_1)).trans hx278_1
      replace hx278_2 := (HB.out.cell (World.block_lt_of_cell? w _ hx278_2)).trans hx278_2
      replace hx278_3 := (HB.out.cell (World.block_lt_of_cell? w _ hx278_3)).trans hx278_3
      replace p278 := eq_true p278
      replace q278 := eq_true q278
      have hcz33_0 : w18.cell? ⟨gb276, 0, none⟩ = some (.int .i64 ((rd_T141 l0_16 a1).f0)) := (bc BK276.out 0).trans rfl
      have hcz33_1 : w18.cell? ⟨gb276, 1, none⟩ = some (.int .i64 ((rd_T141 l0_16 a1).f1)) := (bc BK276.out 1).trans rfl
      have hcz33_2 : w18.cell? ⟨gb276, 2, none⟩ = some (.bool ((rd_T141 l0_16 a1).f2)) := (bc BK276.out 2).trans rfl
      have hfz33_0 := bz BK276.out 0
      have hfz33_1 := bz BK276.out 1
      have hfz33_2 := bz BK276.out 2
      go_wp2
      go_meet
      case rel => exact ⟨_, (true), (by first | rfl | (simp; done) | (simp [*]; done)), H', ⟨by first | omega | exact Nat.le_refl _⟩, ⟨by (with_reducible repeat first | apply bN | apply bd | apply ba); exact BK273.out⟩, ⟨by (with_reducible repeat first | apply bN | apply bd | apply ba); exact BK276.out⟩, ⟨by repeat (first | (with_reducible first | exact HB.out | apply wa | apply wN | apply wd | refine ws ?_ GE273.out | refine ws ?_ GE276.out) | exact HB.out)⟩⟩
    rw [if_neg c30] at H
    have c30b0 : decide (a0_13 < ((rd_T141 l0_16 a1).f1)) = false := decide_eq_false c30
    clear c30
    have H' := Aside0.mk H
    clear H
    have hnb34 := NB273_276.out
    have hnc34 := NB276_273.out
    have hcz35_7 : w18.cell? ⟨gb273, 7, none⟩ = some (.slice A0_7 l0_7.length c0_7) := (bc BK273.out 7).trans rfl
    have hcz35_13 : w18.cell? ⟨gb273, 13, none⟩ = some (.int .i64 a0_13) := (bc BK273.out 13).trans rfl
    have hcz35_15 : w18.cell? ⟨gb273, 15, none⟩ = some (.slice (some ad275) l0_15.length c0_15) := (bc BK273.out 15).trans rfl
    have hcz35_16 : w18.cell? ⟨gb273, 16, none⟩ = some (.slice (some ad274) l0_16.length c0_16) := (bc BK273.out 16).trans rfl
    have p278 : 0 ≤ (t277 : Int) := of_decide_eq_true (by first | (with_reducible assumption) | assumption)
    have q278 : t277 < (l0_7.length : Int) := of_decide_eq_true (by first | (with_reducible assumption) | assumption)
    obtain ⟨ad278, e278, hx278_0, hx278_1, hx278_2, hx278_3⟩ := at_T84 HR0_7.out t277 p278 q278
    (try rw [← Nbq22.out] at hx278_3) <;> (try rw [← Nbq22.out] at hw278_3)
    cases e278
    replace hx278_0 := (HB.out.cell (World.block_lt_of_cell? w _ hx278_0)).trans hx278_0
    replace hx278_1 := (HB.out.cell (World.block_lt_of_cell? w _ hx278_1)).trans hx278_1
    replace hx278_2 := (HB.out.cell (World.block_lt_of_cell? w _ hx278_2)).trans hx278_2
    replace hx278_3 := (HB.out.cell (World.block_lt_of_cell? w _ hx278_3)).trans hx278_3
    replace p278 := eq_true p278
    replace q278 := eq_true q278
    have hcz36_0 : w18.cell? ⟨gb276, 0, none⟩ = some (.int .i64 ((rd_T141 l0_16 a1).f0)) := (bc BK276.out 0).trans rfl
    have hcz36_1 : w18.cell? ⟨gb276, 1, none⟩ = some (.int .i64 ((rd_T141 l0_16 a1).f1)) := (bc BK276.out 1).trans rfl
    have hcz36_2 : w18.cell? ⟨gb276, 2, none⟩ = some (.bool ((rd_T141 l0_16 a1).f2)) := (bc BK276.out 2).trans rfl
    have hfz36_0 := bz BK276.out 0
    have hfz36_1 := bz BK276.out 1
    have hfz36_2 := bz BK276.out 2
    go_wp2
    go_meet
    case rel => exact ⟨_, (decide (((rd_T141 l0_16 a1).f1) > (wrap64 (a2 + 1)))), (by first | rfl | (simp; done) | (simp [*]; done)), H', ⟨by first | omega | exact Nat.le_refl _⟩, ⟨by (with_reducible repeat first | apply bN | apply bd | apply ba); exact BK273.out⟩, ⟨by (with_reducible repeat first | apply bN | apply bd | apply ba); exact BK276.out⟩, ⟨by repeat (first | (with_reducible first | exact HB.out | apply wa | apply wN | apply wd | refine ws ?_ GE273.out | refine ws ?_ GE276.out) | exact HB.out)⟩⟩
  case rest =>
    clear HC8
    try clear c1
    try clear c2
    try clear p2
    try clear q2
    try clear hx2
    try clear c3
    try clear c4
    try clear c4b0
    try clear c5
    try clear c5b0
    try clear c6
    try clear c6b0
    try clear p6
    try clear c12
    try clear c15
    try clear c19
    try clear c19b0
    try clear c20
    try clear c20b0
    try clear c21
    try clear c21b0
    try clear q22
    try clear c23
    try clear c24
    try clear c26
    try clear c26b0
    try clear c27
    try clear p27
    try clear q27
    try clear hx27
    try clear c30
    try clear c30b0
    try clear c31
    try clear c34
    try clear hcz16_13
    try clear hcz16_15
    try clear hcz16_16
    try clear hcz16_7
    try clear hcz17_0
    try clear hcz17_1
    try clear hcz17_2
    try clear hcz25_13
    try clear hcz25_15
    try clear hcz25_16
    try clear hcz25_7
    try clear hcz28_13
    try clear hcz28_15
    try clear hcz28_16
    try clear hcz28_7
    try clear hcz29_0
    try clear hcz29_1
    try clear hcz29_2
    try clear hcz32_13
    try clear hcz32_15
    try clear hcz32_16
    try clear hcz32_7
    try clear hcz33_0
    try clear hcz33_1
    try clear hcz33_2
    try clear hcz35_13
    try clear hcz35_15
    try clear hcz35_16
    try clear hcz35_7
    try clear hcz36_0
    try clear hcz36_1
    try clear hcz36_2
    try clear hfz17_0
    try clear hfz17_1
    try clear hfz17_2
    try clear hfz29_0
    try clear hfz29_1
    try clear hfz29_2
    try clear hfz33_0
    try clear hfz33_1
    try clear hfz33_2
    try clear hfz36_0
    try clear hfz36_1
    try clear hfz36_2
    try clear hx274_0
    try clear hx274_1
    try clear hx274_2
    try clear hx275_0
    try clear hx278_0
    try clear hx278_1
    try clear hx278_2
    try clear hx278_3
    try clear p274
    try clear p275
    try clear p278
    try clear q274
    try clear q275
    try clear q278
    obtain ⟨kq, x56_7, rfl, HA, HJ7, BK273, BK276, HB⟩ := hcut
    cases kq with
    | zero => exact absurd HA.out (by simp [impl_isJob.j0])
    | succ kj7 =>
      have H := HA.out
      clear HA
      simp only [impl_isJob.j0] at H
      by_cases c37 : x56_7 = true
      · subst c37
        have H1 : (some false) = some r := by rw [if_pos rfl] at H; exact H
        clear H
        have H := H1
        clear H1
        obtain rfl := Option.some.inj H
        go_wp2
        go_ret
        exact ⟨by first | rfl | (simp [errW_none, errW_some] <;> rfl) | (simp [*, errW_none, errW_some] <;> rfl), by repeat (first | (with_reducible first | exact HB.out | apply wa | apply wN | apply wd | refine ws ?_ GE273.out | refine ws ?_ GE276.out) | exact HB.out)⟩
      replace c37 := Bool.eq_false_iff.mpr c37
      subst c37
      have H1 : (if 0 ≤ a1 then (if a1 ≤ (l0_16.length : Int) then ((impl_isJob_1.f (l0_16.take (a1 : Int).toNat) ((rd_T141 l0_16 a1).f0) ((rd_T141 l0_16 a1).f1) ((rd_T141 l0_16 a1).f2)).bind fun t283 => (if t283 = true then (impl_isJob.j1 kj7 ((rd_T143 l0_15 a1).f0) t277 true a0_0 a0_1 a0_2 a0_3 a0_4 a0_5 a0_6 l0_7 a0_8 a0_9 l0_10 a0_11 a0_12 a0_13 a0_14 l0_15 l0_16 l0_17 ((rd_T141 l0_16 a1).f0) ((rd_T141 l0_16 a1).f1) ((rd_T141 l0_16 a1).f2)) else (if 0 ≤ t277 then (if t277 < (l0_7.length : Int) then (if 0 ≤ ((rd_T141 l0_16 a1).f1) then (if ((rd_T141 l0_16 a1).f1) < (((rd_T143 l0_15 a1).f0).length : Int) then (impl_isJob.j1 kj7 ((rd_T143 l0_15 a1).f0) t277 (((rd_T84 l0_7 t277).f1) != (rd ((rd_T143 l0_15 a1).f0) ((rd_T141 l0_16 a1).f1))) a0_0 a0_1 a0_2 a0_3 a0_4 a0_5 a0_6 l0_7 a0_8 a0_9 l0_10 a0_11 a0_12 a0_13 a0_14 l0_15 l0_16 l0_17 ((rd_T141 l0_16 a1).f0) ((rd_T141 l0_16 a1).f1) ((rd_T141 l0_16 a1).f2)) else (none)) else (none)) else (none)) else (none)))) else (none)) else (none)) = some r := by rw [if_neg (show ¬ (false = true) by decide)] at H; exact H
      clear H
      have H := H1
      clear H1
      have HC38 := Aside0.mk H
      clear H
      go_upto_region 5 with (fail)
      go_cut [76] (fun v76 wc => ∃ (kq : Nat) (x76_37 : Bool), v76 = .bool x76_37 ∧ Aside0 (impl_isJob.j1 kq ((rd_T143 l0_15 a1).f0) t277 x76_37 a0_0 a0_1 a0_2 a0_3 a0_4 a0_5 a0_6 l0_7 a0_8 a0_9 l0_10 a0_11 a0_12 a0_13 a0_14 l0_15 l0_16 l0_17 ((rd_T141 l0_16 a1).f0) ((rd_T141 l0_16 a1).f1) ((rd_T141 l0_16 a1).f2) = some r) ∧ Aside0 (kq ≤ kj7) ∧ Aside0 (wc.heap[gb273]? = some (.cells #[.int .i64 a0_0, .int .i64 a0_1, .string a0_2, .int .i64 a0_3, .int .i64 a0_4, .int .i64 a0_5, .int .i64 a0_6, (.slice A0_7 l0_7.length c0_7), .int .i64 a0_8, .int .i64 a0_9, (.slice A0_10 l0_10.length c0_10), .int .i64 a0_11, .bool a0_12, .int .i64 a0_13, .int .i64 a0_14, (.slice (some ad275) l0_15.length c0_15), (.slice (some ad274) l0_16.length c0_16), (.slice A0_17 l0_17.length c0_17)] 39 (0, 0))) ∧ Aside0 (wc.heap[gb276]? = some (.cells #[.int .i64 ((rd_T141 l0_16 a1).f0), .int .i64 ((rd_T141 l0_16 a1).f1), .bool ((rd_T141 l0_16 a1).f2)] 141 (0, 0))) ∧ Aside0 (Below w.heap.size w wc))
      case first =>
        have H := HC38.out
        clear HC38
        by_cases c39 : 0 ≤ a1
        rotate_left
        · rw [if_neg c39] at H
          exact absurd H (by simp)
        rw [if_pos c39] at H
        have c39b0 := eq_true c39
        have c39b1 : decide (0 ≤ a1) = true := decide_eq_true c39
        clear c39
        by_cases c40 : a1 ≤ (l0_16.length : Int)
        rotate_left
        · rw [if_neg c40] at H
          exact absurd H (by simp)
        rw [if_pos c40] at H
        have c40b0 := eq_true c40
        have c40b1 : decide (a1 ≤ (l0_16.length : Int)) = true := decide_eq_true c40
        clear c40
        obtain ⟨y279, hy279⟩ : ∃ y_ : List (S141), y_ = (l0_16.take (a1 : Int).toNat) := ⟨_, rfl⟩
        replace H : ((impl_isJob_1.f y279 ((rd_T141 l0_16 a1).f0) ((rd_T141 l0_16 a1).f1) ((rd_T141 l0_16 a1).f2)).bind fun t283 => (if t283 = true then (impl_isJob.j1 kj7 ((rd_T143 l0_15 a1).f0) t277 true a0_0 a0_1 a0_2 a0_3 a0_4 a0_5 a0_6 l0_7 a0_8 a0_9 l0_10 a0_11 a0_12 a0_13 a0_14 l0_15 l0_16 l0_17 ((rd_T141 l0_16 a1).f0) ((rd_T141 l0_16 a1).f1) ((rd_T141 l0_16 a1).f2)) else (if 0 ≤ t277 then (if t277 < (l0_7.length : Int) then (if 0 ≤ ((rd_T141 l0_16 a1).f1) then (if ((rd_T141 l0_16 a1).f1) < (((rd_T143 l0_15 a1).f0).length : Int) then (impl_isJob.j1 kj7 ((rd_T143 l0_15 a1).f0) t277 (((rd_T84 l0_7 t277).f1) != (rd ((rd_T143 l0_15 a1).f0) ((rd_T141 l0_16 a1).f1))) a0_0 a0_1 a0_2 a0_3 a0_4 a0_5 a0_6 l0_7 a0_8 a0_9 l0_10 a0_11 a0_12 a0_13 a0_14 l0_15 l0_16 l0_17 ((rd_T141 l0_16 a1).f0) ((rd_T141 l0_16 a1).f1) ((rd_T141 l0_16 a1).f2)) else (none)) else (none)) else (none)) else (none)))) = some r := by first | (rw [hy279]; with_reducible exact H) | (have H2_ := (Option.bind_some _ _).symm.trans H; rw [hy279]; with_reducible exact H2_) | (have H2_ := (Option.bind_some _ _).symm.trans H; with_reducible exact H2_) | with_reducible exact H | (rw [hy279]; exact H) | exact H
        have Ny279 := Aside0.mk hy279
        clear hy279
        replace H := Option.bind_eq_some_iff.mp H
        obtain ⟨t283, A410, H⟩ := H
        replace H : (if t283 = true then (impl_isJob.j1 kj7 ((rd_T143 l0_15 a1).f0) t277 true a0_0 a0_1 a0_2 a0_3 a0_4 a0_5 a0_6 l0_7 a0_8 a0_9 l0_10 a0_11 a0_12 a0_13 a0_14 l0_15 l0_16 l0_17 ((rd_T141 l0_16 a1).f0) ((rd_T141 l0_16 a1).f1) ((rd_T141 l0_16 a1).f2)) else (if 0 ≤ t277 then (if t277 < (l0_7.length : Int) then (if 0 ≤ ((rd_T141 l0_16 a1).f1) then (if ((rd_T141 l0_16 a1).f1) < (((rd_T143 l0_15 a1).f0).length : Int) then (impl_isJob.j1 kj7 ((rd_T143 l0_15 a1).f0) t277 (((rd_T84 l0_7 t277).f1) != (rd ((rd_T143 l0_15 a1).f0) ((rd_T141 l0_16 a1).f1))) a0_0 a0_1 a0_2 a0_3 a0_4 a0_5 a0_6 l0_7 a0_8 a0_9 l0_10 a0_11 a0_12 a0_13 a0_14 l0_15 l0_16 l0_17 ((rd_T141 l0_16 a1).f0) ((rd_T141 l0_16 a1).f1) ((rd_T141 l0_16 a1).f2)) else (none)) else (none)) else (none)) else (none))) = some r := H
        have A41 := Aside0.mk A410
        clear A410
        by_cases c42 : t283 = true
        · subst c42
          have H1 : (impl_isJob.j1 kj7 ((rd_T143 l0_15 a1).f0) t277 true a0_0 a0_1 a0_2 a0_3 a0_4 a0_5 a0_6 l0_7 a0_8 a0_9 l0_10 a0_11 a0_12 a0_13 a0_14 l0_15 l0_16 l0_17 ((rd_T141 l0_16 a1).f0) ((rd_T141 l0_16 a1).f1) ((rd_T141 l0_16 a1).f2)) = some r := by rw [if_pos rfl] at H; exact H
          clear H
          have H := H1
          clear H1
          have H' := Aside0.mk H
          clear H
          try go_wp2
          have n0_ := Aside0.mk (bd BK273.out)
          have n1_ := Aside0.mk (bd BK276.out)
          have n2_ := Aside0.mk (wd HB.out)
          clear BK273
          clear BK276
          clear HB
          have BK273 := n0_
          have BK276 := n1_
          have HB := n2_
          clear n0_ n1_ n2_
          have q44 : (a1 : Int) ≤ ((l0_16.length : Int) : Int) := of_decide_eq_true (by first | (with_reducible assumption) | assumption)
          obtain ⟨i044, hi044, _, hsz44, _⟩ := info_parts info141
          have hroom44 : l0_16.length ≤ c0_16 := HC0_16.out
          have hC44 : Kd.C k141 _ (some ad274) l0_16.length l0_16 := HR0_16.out
          have hcut44 := cut_to (P := Try.prog) 37 141 .i64 Try.underlying37 hi044 (some ad274) l0_16.length c0_16 a1 (of_decide_eq_true (by first | (with_reducible assumption) | assumption)) q44 hroom44
          have hr44 := Kd.C_take (m := (a1 : Int).toNat) hC44 (by omega)
          have hy44 : y279.length = (a1 : Int).toNat := (by rw [Ny279.out, List.length_take]; omega)
          rw [← Ny279.out] at hr44
          rw [← hy44] at hcut44
          have HR282 := Aside0.mk hr44
          have HC282 := Aside0.mk (show y279.length ≤ c0_16 from by omega)
          clear hr44 hC44 hroom44 hi044 hsz44
          have KY44 := Aside0.mk hy44
          clear hy44
          replace q44 := eq_true q44
          refine start_ (n := 20) (S := fun w' => w'.cell? ⟨gb273, 16, none⟩ = some (.slice (some ad274) l0_16.length c0_16)) (ds := []) #[false, false, false, false, false, false, false, false, false, false, false, false, false, false, false, false, false, false, false, false] (by kernel_rfl) rfl rfl ((bc BK273.out 16).trans rfl) (fun hHeld => ?_); refine with_tabW impl_isJob.tab5 impl_isJob.bits5 (fun HT_ HW_ => ?_)
          generalize wc.drew = w43 at BK273 BK276 HB HR282 hHeld ⊢
          refine plan_ [(0, 57, 0), (2, 59, 0), (4, 61, 0), (1, 58, 2), (3, 60, 0)] ?_
          repeat (first | (refine p0_ (v := ?_) (a' := ?_) HT_.out (by rfl) (by rfl) (by rfl) (by kernel_rfl) (by exact fun _ _ _ h => h) (Or.inl ⟨by rfl, ?_⟩) ?_ ?_; rotate_left; (· (intro w'; go_simp; with_reducible rfl)); rotate_left; (· (simp only [Act.put, List.setIfInBounds_toArray, List.set_cons_zero, List.set_cons_succ, i64_w, i32_w]; rfl))) | (refine p2_ (v := ?_) (a' := ?_) HT_.out HW_.out (by rfl) (by rfl) (by rfl) (by kernel_rfl) (by exact fun _ _ _ h => h) (Or.inl ⟨by rfl, ?_⟩) hHeld ?_ ?_; rotate_left; (· (intro w' s0; go_simp; with_reducible rfl)); rotate_left; (· (simp only [Act.put, List.setIfInBounds_toArray, List.set_cons_zero, List.set_cons_succ, i64_w, i32_w]; rfl))))
          with_reducible refine end_ ?_
          refine one_ (i := 5) (N := some 62) #[true, true, true, true, true, true, false, false, false, false, false, false, false, false, false, false, false, false, false, false] rfl rfl (one_of HT_.out (by kernel_rfl)) (by decide) (fun K hK => ?_)
          refine goes_ Try.func154 (by kernel_rfl) rfl #[.slice (some ad274) y279.length c0_16, .func (.func 155) #[] #[.pointer (some ⟨gb276, 0, none⟩)]] (by rfl) rfl rfl (by (try simp only [List.map_toArray, List.map_cons, List.map_nil]); first | done | rfl | (simp only [List.length_drop, List.length_take]; rfl)) ?_
          with_reducible refine (impl_isJob_1.calls _ _ y279 ((rd_T141 l0_16 a1).f0) ((rd_T141 l0_16 a1).f1) ((rd_T141 l0_16 a1).f2) true _ ?side1 ?side2 ?side3 A41.out).mono ?_
          (case side1 => exact (by (with_reducible repeat first | apply bN | apply bd | apply ba); exact BK276.out))
          (case side2 => repeat (first | exact (Kd.C_below HR282.out HB.out) | (with_reducible refine Kd.Ca ?_ _) | (with_reducible refine Kd.Cn ?_ _) | (with_reducible refine Kd.Cd ?_)))
          (case side3 => exact HC282.out)
          rintro e w45 ⟨rfl, hb⟩
          refine ⟨_, rfl, ?_⟩
          have n0_ := Aside0.mk (bb (g := gb273) (by first | (with_reducible exact BK273.out) | (with_reducible exact bN BK273.out _) | (with_reducible exact bd BK273.out) | ((with_reducible repeat first | apply bN | apply bd | apply ba); exact BK273.out)) hb)
          have n1_ := Aside0.mk (bb (g := gb276) (by first | (with_reducible exact BK276.out) | (with_reducible exact bN BK276.out _) | (with_reducible exact bd BK276.out) | ((with_reducible repeat first | apply bN | apply bd | apply ba); exact BK276.out)) hb)
          have n2_ := Aside0.mk (below_step (by repeat (first | (with_reducible first | exact HB.out | apply wa | apply wN | apply wd | refine ws ?_ GE273.out | refine ws ?_ GE276.out) | exact HB.out)) hb)
          clear BK273
          clear BK276
          clear HB
          have BK273 := n0_
          have BK276 := n1_
          have HB := n2_
          clear n0_ n1_ n2_
          (try clear hb)
          (try clear hb2)
          (try clear hk)
          (try clear hi)
          refine hK.out _ _ ((bc BK273.out 16).trans rfl) (fun hHeld => ?_)
          clear hK K
          refine norm_ (a' := ?_) ?_ ?_
          rotate_left
          · show Act.put _ (some 62) _ = _
            simp only [Act.put, List.setIfInBounds_toArray, List.set_cons_zero, List.set_cons_succ, i64_w, i32_w]
            rfl
          refine plan_ [(6, 63, 0), (7, 64, 1), (8, 65, 1), (9, 66, 1), (10, 67, 1), (11, 68, 1), (12, 69, 1), (13, 70, 1), (14, 71, 1), (15, 72, 1), (16, 73, 1), (17, 74, 1), (18, 75, 1), (19, 76, 0)] ?_
          repeat (first | (refine p0_ (v := ?_) (a' := ?_) HT_.out (by rfl) (by rfl) (by rfl) (by kernel_rfl) (by exact fun _ _ _ h => h) (Or.inl ⟨by rfl, ?_⟩) ?_ ?_; rotate_left; (· (intro w'; go_simp; with_reducible rfl)); rotate_left; (· (simp only [Act.put, List.setIfInBounds_toArray, List.set_cons_zero, List.set_cons_succ, i64_w, i32_w]; rfl))) | (refine p1_ (a' := ?_) HT_.out (by rfl) (by rfl) (by rfl) (by kernel_rfl) (by exact fun _ _ _ h => h) (Or.inr ⟨by rfl, rfl⟩) ?_ ?_; rotate_left; (· (simp only [Act.put, List.setIfInBounds_toArray, List.set_cons_zero, List.set_cons_succ, i64_w, i32_w]; rfl))))
          with_reducible refine end_ ?_
          refine done_ (done_of HT_.out (by kernel_rfl)) ?_
          try go_wp2
          go_meet
          case rel => exact ⟨_, (true), (by first | rfl | (simp; done) | (simp [*]; done)), H', ⟨by have := HJ7.out; first | omega | exact Nat.le_refl _⟩, ⟨by (with_reducible repeat first | apply bN | apply bd | apply ba); exact BK273.out⟩, ⟨by (with_reducible repeat first | apply bN | apply bd | apply ba); exact BK276.out⟩, ⟨by repeat (first | (with_reducible first | exact HB.out | apply wa | apply wN | apply wd | refine ws ?_ GE273.out | refine ws ?_ GE276.out) | exact HB.out)⟩⟩
        replace c42 := Bool.eq_false_iff.mpr c42
        subst c42
        have H1 : (if 0 ≤ t277 then (if t277 < (l0_7.length : Int) then (if 0 ≤ ((rd_T141 l0_16 a1).f1) then (if ((rd_T141 l0_16 a1).f1) < (((rd_T143 l0_15 a1).f0).length : Int) then (impl_isJob.j1 kj7 ((rd_T143 l0_15 a1).f0) t277 (((rd_T84 l0_7 t277).f1) != (rd ((rd_T143 l0_15 a1).f0) ((rd_T141 l0_16 a1).f1))) a0_0 a0_1 a0_2 a0_3 a0_4 a0_5 a0_6 l0_7 a0_8 a0_9 l0_10 a0_11 a0_12 a0_13 a0_14 l0_15 l0_16 l0_17 ((rd_T141 l0_16 a1).f0) ((rd_T141 l0_16 a1).f1) ((rd_T141 l0_16 a1).f2)) else (none)) else (none)) else (none)) else (none)) = some r := by rw [if_neg (show ¬ (false = true) by decide)] at H; exact H
        clear H
        have H := H1
        clear H1
        by_cases c46 : 0 ≤ t277
        rotate_left
        · rw [if_neg c46] at H
          exact absurd H (by simp)
        rw [if_pos c46] at H
        have c46b0 : decide (0 ≤ t277) = true := decide_eq_true c46
        clear c46
        (first | rw [c46b0] | (simp only [i64_w, i32_w]; rw [c46b0]) | skip)
        by_cases c47 : t277 < (l0_7.length : Int)
        rotate_left
        · rw [if_neg c47] at H
          exact absurd H (by simp)
        rw [if_pos c47] at H
        have c47b0 : decide (t277 < (l0_7.length : Int)) = true := decide_eq_true c47
        clear c47
        by_cases c48 : 0 ≤ ((rd_T141 l0_16 a1).f1)
        rotate_left
        · rw [if_neg c48] at H
          exact absurd H (by simp)
        rw [if_pos c48] at H
        have c48b0 : decide (0 ≤ ((rd_T141 l0_16 a1).f1)) = true := decide_eq_true c48
        clear c48
        by_cases c49 : ((rd_T141 l0_16 a1).f1) < (((rd_T143 l0_15 a1).f0).length : Int)
        rotate_left
        · rw [if_neg c49] at H
          exact absurd H (by simp)
        rw [if_pos c49] at H
        have c49b0 : decide (((rd_T141 l0_16 a1).f1) < (((rd_T143 l0_15 a1).f0).length : Int)) = true := decide_eq_true c49
        clear c49
        have H' := Aside0.mk H
        clear H
        try go_wp2
        have n0_ := Aside0.mk (bd BK273.out)
        have n1_ := Aside0.mk (bd BK276.out)
        have n2_ := Aside0.mk (wd HB.out)
        clear BK273
        clear BK276
        clear HB
        have BK273 := n0_
        have BK276 := n1_
        have HB := n2_
        clear n0_ n1_ n2_
        have q51 : (a1 : Int) ≤ ((l0_16.length : Int) : Int) := of_decide_eq_true (by first | (with_reducible assumption) | assumption)
        obtain ⟨i051, hi051, _, hsz51, _⟩ := info_parts info141
        have hroom51 : l0_16.length ≤ c0_16 := HC0_16.out
        have hC51 : Kd.C k141 _ (some ad274) l0_16.length l0_16 := HR0_16.out
        have hcut51 := cut_to (P := Try.prog) 37 141 .i64 Try.underlying37 hi051 (some ad274) l0_16.length c0_16 a1 (of_decide_eq_true (by first | (with_reducible assumption) | assumption)) q51 hroom51
        have hr51 := Kd.C_take (m := (a1 : Int).toNat) hC51 (by omega)
        have hy51 : y279.length = (a1 : Int).toNat := (by rw [Ny279.out, List.length_take]; omega)
        rw [← Ny279.out] at hr51
        rw [← hy51] at hcut51
        have HR282 := Aside0.mk hr51
        have HC282 := Aside0.mk (show y279.length ≤ c0_16 from by omega)
        clear hr51 hC51 hroom51 hi051 hsz51
        have KY51 := Aside0.mk hy51
        clear hy51
        replace q51 := eq_true q51
        have p284 : 0 ≤ (t277 : Int) := of_decide_eq_true (by first | (with_reducible assumption) | assumption)
        have q284 : t277 < (l0_7.length : Int) := of_decide_eq_true (by first | (with_reducible assumption) | assumption)
        obtain ⟨ad284, e284, hx284_0, hx284_1, hx284_2, hx284_3⟩ := at_T84 HR0_7.out t277 p284 q284
        have hw284_3 := hx284_3
        have hw284_2 := hx284_2
        have hw284_1 := hx284_1
        have hw284_0 := hx284_0
        cases e284
        replace hx284_0 := (HB.out.cell (World.block_lt_of_cell? w _ hx284_0)).trans hx284_0
        replace hx284_1 := (HB.out.cell (World.block_lt_of_cell? w _ hx284_1)).trans hx284_1
        replace hx284_2 := (HB.out.cell (World.block_lt_of_cell? w _ hx284_2)).trans hx284_2
        replace hx284_3 := (HB.out.cell (World.block_lt_of_cell? w _ hx284_3)).trans hx284_3
        replace p284 := eq_true p284
        replace q284 := eq_true q284
        have p285 : 0 ≤ (((rd_T141 l0_16 a1).f1) : Int) := of_decide_eq_true (by first | (with_reducible assumption) | assumption)
        have q285 : ((rd_T141 l0_16 a1).f1) < (((rd_T143 l0_15 a1).f0).length : Int) := of_decide_eq_true (by first | (with_reducible assumption) | assumption)
        obtain ⟨ad285, e285, hx285_0⟩ := Kd.at_int HR275_0.out ((rd_T141 l0_16 a1).f1) p285 q285
        have hw285_0 := hx285_0
        cases e285
        replace hx285_0 := (HB.out.cell (World.block_lt_of_cell? w _ hx285_0)).trans hx285_0
        replace p285 := eq_true p285
        replace q285 := eq_true q285
        refine start_ (n := 20) (S := fun w' => w'.cell? ⟨gb273, 7, none⟩ = some (.slice (some ad284) l0_7.length c0_7) ∧ w'.cell? ⟨gb273, 16, none⟩ = some (.slice (some ad274) l0_16.length c0_16) ∧ w'.cell? ⟨gb276, 0, none⟩ = some (.int .i64 ((rd_T141 l0_16 a1).f0)) ∧ w'.cell? ⟨gb276, 1, none⟩ = some (.int .i64 ((rd_T141 l0_16 a1).f1)) ∧ w'.cell? ⟨gb276, 2, none⟩ = some (.bool ((rd_T141 l0_16 a1).f2)) ∧ w'.cell? (ad284.add ((t277).toNat * 4)) = some (.int .i64 ((rd_T84 l0_7 t277).f0)) ∧ w'.cell? ⟨(ad284.add ((t277).toNat * 4)).block, (ad284.add ((t277).toNat * 4)).off + 1, none⟩ = some (.int .i64 ((rd_T84 l0_7 t277).f1)) ∧ w'.cell? ⟨(ad284.add ((t277).toNat * 4)).block, (ad284.add ((t277).toNat * 4)).off + 2, none⟩ = some (.int .i64 ((rd_T84 l0_7 t277).f2)) ∧ w'.cell? ⟨(ad284.add ((t277).toNat * 4)).block, (ad284.add ((t277).toNat * 4)).off + 3, none⟩ = some (.bool ((rd_T84 l0_7 t277).f3)) ∧ w'.cell? (ad285.add (((rd_T141 l0_16 a1).f1)).toNat) = some (.int .i64 (rd ((rd_T143 l0_15 a1).f0) ((rd_T141 l0_16 a1).f1)))) (ds := []) #[false, false, false, false, false, false, false, false, false, false, false, false, false, false, false, false, false, false, false, false] (by kernel_rfl) rfl rfl ⟨(bc BK273.out 7).trans rfl, (bc BK273.out 16).trans rfl, (bc BK276.out 0).trans rfl, (bc BK276.out 1).trans rfl, (bc BK276.out 2).trans rfl, ((HB.out.cell (World.block_lt_of_cell? w _ hw284_0)).trans hw284_0), ((HB.out.cell (World.block_lt_of_cell? w _ hw284_1)).trans hw284_1), ((HB.out.cell (World.block_lt_of_cell? w _ hw284_2)).trans hw284_2), ((HB.out.cell (World.block_lt_of_cell? w _ hw284_3)).trans hw284_3), ((HB.out.cell (World.block_lt_of_cell? w _ hw285_0)).trans hw285_0)⟩ (fun hHeld => ?_); refine with_tabW impl_isJob.tab5 impl_isJob.bits5 (fun HT_ HW_ => ?_)
        generalize wc.drew = w50 at BK273 BK276 HB HR282 hx284_0 hx284_1 hx284_2 hx284_3 hx285_0 hHeld ⊢
        refine plan_ [(0, 57, 0), (2, 59, 0), (4, 61, 0), (1, 58, 2), (3, 60, 0)] ?_
        repeat (first | (refine p0_ (v := ?_) (a' := ?_) HT_.out (by rfl) (by rfl) (by rfl) (by kernel_rfl) (by exact fun _ _ _ h => h) (Or.inl ⟨by rfl, ?_⟩) ?_ ?_; rotate_left; (· (intro w'; go_simp; with_reducible rfl)); rotate_left; (· (simp only [Act.put, List.setIfInBounds_toArray, List.set_cons_zero, List.set_cons_succ, i64_w, i32_w]; rfl))) | (refine p2_ (v := ?_) (a' := ?_) HT_.out HW_.out (by rfl) (by rfl) (by rfl) (by kernel_rfl) (by exact fun _ _ _ h => h) (Or.inl ⟨by rfl, ?_⟩) hHeld ?_ ?_; rotate_left; (· (rintro w' ⟨s0, s1, s2, s3, s4, s5, s6, s7, s8, s9⟩; go_simp; with_reducible rfl)); rotate_left; (· (simp only [Act.put, List.setIfInBounds_toArray, List.set_cons_zero, List.set_cons_succ, i64_w, i32_w]; rfl))))
        with_reducible refine end_ ?_
        refine one_ (i := 5) (N := some 62) #[true, true, true, true, true, true, false, false, false, false, false, false, false, false, false, false, false, false, false, false] rfl rfl (one_of HT_.out (by kernel_rfl)) (by decide) (fun K hK => ?_)
        refine goes_ Try.func154 (by kernel_rfl) rfl #[.slice (some ad274) y279.length c0_16, .func (.func 155) #[] #[.pointer (some ⟨gb276, 0, none⟩)]] (by rfl) rfl rfl (by (try simp only [List.map_toArray, List.map_cons, List.map_nil]); first | done | rfl | (simp only [List.length_drop, List.length_take]; rfl)) ?_
        with_reducible refine (impl_isJob_1.calls _ _ y279 ((rd_T141 l0_16 a1).f0) ((rd_T141 l0_16 a1).f1) ((rd_T141 l0_16 a1).f2) false _ ?side1 ?side2 ?side3 A41.out).mono ?_
        (case side1 => exact (by (with_reducible repeat first | apply bN | apply bd | apply ba); exact BK276.out))
        (case side2 => repeat (first | exact (Kd.C_below HR282.out HB.out) | (with_reducible refine Kd.Ca ?_ _) | (with_reducible refine Kd.Cn ?_ _) | (with_reducible refine Kd.Cd ?_)))
        (case side3 => exact HC282.out)
        rintro e w52 ⟨rfl, hb⟩
        refine ⟨_, rfl, ?_⟩
        have n0_ := Aside0.mk (bb (g := gb273) (by first | (with_reducible exact BK273.out) | (with_reducible exact bN BK273.out _) | (with_reducible exact bd BK273.out) | ((with_reducible repeat first | apply bN | apply bd | apply ba); exact BK273.out)) hb)
        have n1_ := Aside0.mk (bb (g := gb276) (by first | (with_reducible exact BK276.out) | (with_reducible exact bN BK276.out _) | (with_reducible exact bd BK276.out) | ((with_reducible repeat first | apply bN | apply bd | apply ba); exact BK276.out)) hb)
        have n2_ := Aside0.mk (below_step (by repeat (first | (with_reducible first | exact HB.out | apply wa | apply wN | apply wd | refine ws ?_ GE273.out | refine ws ?_ GE276.out) | exact HB.out)) hb)
        clear BK273
        clear BK276
        clear HB
        have BK273 := n0_
        have BK276 := n1_
        have HB := n2_
        clear n0_ n1_ n2_
        (try clear hb)
        (try clear hb2)
        (try clear hk)
        (try clear hi)
        refine hK.out _ _ ⟨(bc BK273.out 7).trans rfl, (bc BK273.out 16).trans rfl, (bc BK276.out 0).trans rfl, (bc BK276.out 1).trans rfl, (bc BK276.out 2).trans rfl, ((HB.out.cell (World.block_lt_of_cell? w _ hw284_0)).trans hw284_0), ((HB.out.cell (World.block_lt_of_cell? w _ hw284_1)).trans hw284_1), ((HB.out.cell (World.block_lt_of_cell? w _ hw284_2)).trans hw284_2), ((HB.out.cell (World.block_lt_of_cell? w _ hw284_3)).trans hw284_3), ((HB.out.cell (World.block_lt_of_cell? w _ hw285_0)).trans hw285_0)⟩ (fun hHeld => ?_)
        clear hK K
        refine norm_ (a' := ?_) ?_ ?_
        rotate_left
        · show Act.put _ (some 62) _ = _
          simp only [Act.put, List.setIfInBounds_toArray, List.set_cons_zero, List.set_cons_succ, i64_w, i32_w]
          rfl
        refine plan_ [(6, 63, 0), (7, 64, 0), (9, 66, 0), (13, 70, 0), (14, 71, 0), (8, 65, 2), (10, 67, 0), (11, 68, 0), (12, 69, 2), (15, 72, 2), (16, 73, 0), (17, 74, 2), (18, 75, 0), (19, 76, 0)] ?_
        repeat (first | (refine p0_ (v := ?_) (a' := ?_) HT_.out (by rfl) (by rfl) (by rfl) (by kernel_rfl) (by exact fun _ _ _ h => h) (Or.inl ⟨by rfl, ?_⟩) ?_ ?_; rotate_left; (· (intro w'; go_simp; with_reducible rfl)); rotate_left; (· (simp only [Act.put, List.setIfInBounds_toArray, List.set_cons_zero, List.set_cons_succ, i64_w, i32_w]; rfl))) | (refine p2_ (v := ?_) (a' := ?_) HT_.out HW_.out (by rfl) (by rfl) (by rfl) (by kernel_rfl) (by exact fun _ _ _ h => h) (Or.inl ⟨by rfl, ?_⟩) hHeld ?_ ?_; rotate_left; (· (rintro w' ⟨s0, s1, s2, s3, s4, s5, s6, s7, s8, s9⟩; go_simp; with_reducible rfl)); rotate_left; (· (simp only [Act.put, List.setIfInBounds_toArray, List.set_cons_zero, List.set_cons_succ, i64_w, i32_w]; rfl))))
        with_reducible refine end_ ?_
        refine done_ (done_of HT_.out (by kernel_rfl)) ?_
        try go_wp2
        go_meet
        case rel => exact ⟨_, ((((rd_T84 l0_7 t277).f1) != (rd ((rd_T143 l0_15 a1).f0) ((rd_T141 l0_16 a1).f1)))), (by first | rfl | (simp; done) | (simp [*]; done)), H', ⟨by have := HJ7.out; first | omega | exact Nat.le_refl _⟩, ⟨by (with_reducible repeat first | apply bN | apply bd | apply ba); exact BK273.out⟩, ⟨by (with_reducible repeat first | apply bN | apply bd | apply ba); exact BK276.out⟩, ⟨by repeat (first | (with_reducible first | exact HB.out | apply wa | apply wN | apply wd | refine ws ?_ GE273.out | refine ws ?_ GE276.out) | exact HB.out)⟩⟩
      case rest =>
        clear HC38
        try clear c1
        try clear c2
        try clear p2
        try clear q2
        try clear hx2
        try clear c3
        try clear c4
        try clear c4b0
        try clear q4
        try clear c5
        try clear c5b0
        try clear q5
        try clear c6
        try clear c6b0
        try clear p6
        try clear c12
        try clear c15
        try clear c19
        try clear c19b0
        try clear c20
        try clear c20b0
        try clear c21
        try clear c21b0
        try clear q22
        try clear c23
        try clear c24
        try clear c26
        try clear c26b0
        try clear c27
        try clear p27
        try clear q27
        try clear hx27
        try clear p28
        try clear q28
        try clear hx28
        try clear c30
        try clear c30b0
        try clear c31
        try clear c34
        try clear c37
        try clear c39
        try clear c39b0
        try clear c39b1
        try clear c40
        try clear c40b0
        try clear c40b1
        try clear c42
        try clear q44
        try clear c46
        try clear c46b0
        try clear c47
        try clear c47b0
        try clear c48
        try clear c48b0
        try clear c49
        try clear c49b0
        try clear q51
        try clear hcz16_13
        try clear hcz16_15
        try clear hcz16_16
        try clear hcz16_7
        try clear hcz17_0
        try clear hcz17_1
        try clear hcz17_2
        try clear hcz25_13
        try clear hcz25_15
        try clear hcz25_16
        try clear hcz25_7
        try clear hcz28_13
        try clear hcz28_15
        try clear hcz28_16
        try clear hcz28_7
        try clear hcz29_0
        try clear hcz29_1
        try clear hcz29_2
        try clear hcz32_13
        try clear hcz32_15
        try clear hcz32_16
        try clear hcz32_7
        try clear hcz33_0
        try clear hcz33_1
        try clear hcz33_2
        try clear hcz35_13
        try clear hcz35_15
        try clear hcz35_16
        try clear hcz35_7
        try clear hcz36_0
        try clear hcz36_1
        try clear hcz36_2
        try clear hfz17_0
        try clear hfz17_1
        try clear hfz17_2
        try clear hfz29_0
        try clear hfz29_1
        try clear hfz29_2
        try clear hfz33_0
        try clear hfz33_1
        try clear hfz33_2
        try clear hfz36_0
        try clear hfz36_1
        try clear hfz36_2
        try clear hx274_0
        try clear hx274_1
        try clear hx274_2
        try clear hx275_0
        try clear hx278_0
        try clear hx278_1
        try clear hx278_2
        try clear hx278_3
        try clear hx284_0
        try clear hx284_1
        try clear hx284_2
        try clear hx284_3
        try clear hx285_0
        try clear p2
        try clear p27
        try clear p274
        try clear p275
        try clear p278
        try clear p284
        try clear p285
        try clear p6
        try clear q2
        try clear q22
        try clear q27
        try clear q274
        try clear q275
        try clear q278
        try clear q284
        try clear q285
        try clear q44
        try clear q51
        obtain ⟨kq, x76_37, rfl, HA, HJ37, BK273, BK276, HB⟩ := hcut
        cases kq with
        | zero => exact absurd HA.out (by simp [impl_isJob.j1])
        | succ kj37 =>
          have H := HA.out
          clear HA
          simp only [impl_isJob.j1] at H
          by_cases c53 : x76_37 = true
          · subst c53
            have H1 : (some false) = some r := by rw [if_pos rfl] at H; exact H
            clear H
            have H := H1
            clear H1
            obtain rfl := Option.some.inj H
            go_wp2
            go_ret
            exact ⟨by first | rfl | (simp [errW_none, errW_some] <;> rfl) | (simp [*, errW_none, errW_some] <;> rfl), by repeat (first | (with_reducible first | exact HB.out | apply wa | apply wN | apply wd | refine ws ?_ GE273.out | refine ws ?_ GE276.out) | exact HB.out)⟩
          replace c53 := Bool.eq_false_iff.mpr c53
          subst c53
          have H1 : (if ((rd_T141 l0_16 a1).f2) = true then (if ((rd_T141 l0_16 a1).f1) < a0_13 then (if 0 ≤ t277 then (if t277 < (l0_7.length : Int) then (if 0 ≤ (wrap64 (((rd_T141 l0_16 a1).f1) + 1)) then (if (wrap64 (((rd_T141 l0_16 a1).f1) + 1)) < (((rd_T143 l0_15 a1).f0).length : Int) then (some (((rd_T84 l0_7 t277).f2) == (rd ((rd_T143 l0_15 a1).f0) (wrap64 (((rd_T141 l0_16 a1).f1) + 1))))) else (none)) else (none)) else (none)) else (none)) else (some false)) else (if 0 ≤ t277 then (if t277 < (l0_7.length : Int) then (some (((rd_T84 l0_7 t277).f2) == (-1))) else (none)) else (none))) = some r := by rw [if_neg (show ¬ (false = true) by decide)] at H; exact H
          clear H
          have H := H1
          clear H1
          by_cases c54 : ((rd_T141 l0_16 a1).f2) = true
          rotate_left
          · rw [if_neg c54] at H
            have c54b0 : ((rd_T141 l0_16 a1).f2) = false := by simpa using c54
            clear c54
            by_cases c67 : 0 ≤ t277
            rotate_left
            · rw [if_neg c67] at H
              exact absurd H (by simp)
            rw [if_pos c67] at H
            have c67b0 : decide (0 ≤ t277) = true := decide_eq_true c67
            clear c67
            by_cases c68 : t277 < (l0_7.length : Int)
            rotate_left
            · rw [if_neg c68] at H
              exact absurd H (by simp)
            rw [if_pos c68] at H
            have c68b0 : decide (t277 < (l0_7.length : Int)) = true := decide_eq_true c68
            clear c68
            obtain rfl := Option.some.inj H
            have hnb69 := NB276_273.out
            have hnc69 := NB273_276.out
            have hcz70_0 : wc.cell? ⟨gb276, 0, none⟩ = some (.int .i64 ((rd_T141 l0_16 a1).f0)) := (bc BK276.out 0).trans rfl
            have hcz70_1 : wc.cell? ⟨gb276, 1, none⟩ = some (.int .i64 ((rd_T141 l0_16 a1).f1)) := (bc BK276.out 1).trans rfl
            have hcz70_2 : wc.cell? ⟨gb276, 2, none⟩ = some (.bool ((rd_T141 l0_16 a1).f2)) := (bc BK276.out 2).trans rfl
            have hfz70_0 := bz BK276.out 0
            have hfz70_1 := bz BK276.out 1
            have hfz70_2 := bz BK276.out 2
            have hcz71_7 : wc.cell? ⟨gb273, 7, none⟩ = some (.slice A0_7 l0_7.length c0_7) := (bc BK273.out 7).trans rfl
            have hcz71_13 : wc.cell? ⟨gb273, 13, none⟩ = some (.int .i64 a0_13) := (bc BK273.out 13).trans rfl
            have hcz71_15 : wc.cell? ⟨gb273, 15, none⟩ = some (.slice (some ad275) l0_15.length c0_15) := (bc BK273.out 15).trans rfl
            have hcz71_16 : wc.cell? ⟨gb273, 16, none⟩ = some (.slice (some ad274) l0_16.length c0_16) := (bc BK273.out 16).trans rfl
            have p288 : 0 ≤ (t277 : Int) := of_decide_eq_true (by first | (with_reducible assumption) | assumption)
            have q288 : t277 < (l0_7.length : Int) := of_decide_eq_true (by first | (with_reducible assumption) | assumption)
            obtain ⟨ad288, e288, hx288_0, hx288_1, hx288_2, hx288_3⟩ := at_T84 HR0_7.out t277 p288 q288
            cases e288
            replace hx288_0 := (HB.out.cell (World.block_lt_of_cell? w _ hx288_0)).trans hx288_0
            replace hx288_1 := (HB.out.cell (World.block_lt_of_cell? w _ hx288_1)).trans hx288_1
            replace hx288_2 := (HB.out.cell (World.block_lt_of_cell? w _ hx288_2)).trans hx288_2
            replace hx288_3 := (HB.out.cell (World.block_lt_of_cell? w _ hx288_3)).trans hx288_3
            replace p288 := eq_true p288
            replace q288 := eq_true q288
            go_wp2
            go_ret
            exact ⟨by first | rfl | (simp [errW_none, errW_some] <;> rfl) | (simp [*, errW_none, errW_some] <;> rfl), by repeat (first | (with_reducible first | exact HB.out | apply wa | apply wN | apply wd | refine ws ?_ GE273.out | refine ws ?_ GE276.out) | exact HB.out)⟩
          rw [if_pos c54] at H
          have c54b0 : ((rd_T141 l0_16 a1).f2) = true := c54
          clear c54
          by_cases c55 : ((rd_T141 l0_16 a1).f1) < a0_13
          rotate_left
          · rw [if_neg c55] at H
            have c55b0 : decide (((rd_T141 l0_16 a1).f1) < a0_13) = false := decide_eq_false c55
            clear c55
            obtain rfl := Option.some.inj H
            have hnb64 := NB276_273.out
            have hnc64 := NB273_276.out
            have hcz65_0 : wc.cell? ⟨gb276, 0, none⟩ = some (.int .i64 ((rd_T141 l0_16 a1).f0)) := (bc BK276.out 0).trans rfl
            have hcz65_1 : wc.cell? ⟨gb276, 1, none⟩ = some (.int .i64 ((rd_T141 l0_16 a1).f1)) := (bc BK276.out 1).trans rfl
            have hcz65_2 : wc.cell? ⟨gb276, 2, none⟩ = some (.bool ((rd_T141 l0_16 a1).f2)) := (bc BK276.out 2).trans rfl
            have hfz65_0 := bz BK276.out 0
            have hfz65_1 := bz BK276.out 1
            have hfz65_2 := bz BK276.out 2
            try go_wp2
            have n0_ := Aside0.mk (bd BK273.out)
            have n1_ := Aside0.mk (bd BK276.out)
            have n2_ := Aside0.mk (wd HB.out)
            clear BK273
            clear BK276
            clear HB
            have BK273 := n0_
            have BK276 := n1_
            have HB := n2_
            clear n0_ n1_ n2_
            refine start_ (n := 22) (S := fun w' => w'.cell? ⟨gb276, 0, none⟩ = some (.int .i64 ((rd_T141 l0_16 a1).f0)) ∧ w'.cell? ⟨gb276, 1, none⟩ = some (.int .i64 ((rd_T141 l0_16 a1).f1)) ∧ w'.cell? ⟨gb276, 2, none⟩ = some (.bool ((rd_T141 l0_16 a1).f2)) ∧ w'.cell? ⟨gb273, 13, none⟩ = some (.int .i64 a0_13)) (ds := []) #[false, false, false, false, false, false, false, false, false, false, false, false, false, false, false, false, false, false, false, false, false, false] (by kernel_rfl) rfl rfl ⟨(bc BK276.out 0).trans rfl, (bc BK276.out 1).trans rfl, (bc BK276.out 2).trans rfl, (bc BK273.out 13).trans rfl⟩ (fun hHeld => ?_); refine with_tabW impl_isJob.tab8 impl_isJob.bits8 (fun HT_ HW_ => ?_)
            generalize wc.drew = w66 at BK273 BK276 HB hHeld ⊢
            refine plan_ [(0, 79, 0), (2, 81, 0), (3, 82, 0), (1, 80, 2), (4, 83, 2), (5, 84, 0), (6, 85, 0), (7, 86, 1), (8, 87, 1), (9, 88, 1), (10, 89, 1), (11, 90, 1), (12, 91, 1), (13, 92, 1), (14, 93, 1), (15, 94, 1), (16, 95, 1), (17, 96, 1), (18, 97, 1), (19, 98, 1), (20, 99, 0), (21, 6, 0)] ?_
            repeat (first | (refine p0_ (v := ?_) (a' := ?_) HT_.out (by rfl) (by rfl) (by rfl) (by kernel_rfl) (by exact fun _ _ _ h => h) (Or.inl ⟨by rfl, ?_⟩) ?_ ?_; rotate_left; (· (intro w'; go_simp; with_reducible rfl)); rotate_left; (· (simp only [Act.put, List.setIfInBounds_toArray, List.set_cons_zero, List.set_cons_succ, i64_w, i32_w]; rfl))) | (refine p1_ (a' := ?_) HT_.out (by rfl) (by rfl) (by rfl) (by kernel_rfl) (by exact fun _ _ _ h => h) (Or.inr ⟨by rfl, rfl⟩) ?_ ?_; rotate_left; (· (simp only [Act.put, List.setIfInBounds_toArray, List.set_cons_zero, List.set_cons_succ, i64_w, i32_w]; rfl))) | (refine p2_ (v := ?_) (a' := ?_) HT_.out HW_.out (by rfl) (by rfl) (by rfl) (by kernel_rfl) (by exact fun _ _ _ h => h) (Or.inl ⟨by rfl, ?_⟩) hHeld ?_ ?_; rotate_left; (· (rintro w' ⟨s0, s1, s2, s3⟩; go_simp; with_reducible rfl)); rotate_left; (· (simp only [Act.put, List.setIfInBounds_toArray, List.set_cons_zero, List.set_cons_succ, i64_w, i32_w]; rfl))))
            with_reducible refine end_ ?_
            refine done_ (done_of HT_.out (by kernel_rfl)) ?_
            try go_wp2
            go_ret
            exact ⟨by first | rfl | (simp [errW_none, errW_some] <;> rfl) | (simp [*, errW_none, errW_some] <;> rfl), by repeat (first | (with_reducible first | exact HB.out | apply wa | apply wN | apply wd | refine ws ?_ GE273.out | refine ws ?_ GE276.out) | exact HB.out)⟩
          rw [if_pos c55] at H
          have c55b0 : decide (((rd_T141 l0_16 a1).f1) < a0_13) = true := decide_eq_true c55
          clear c55
          by_cases c56 : 0 ≤ t277
          rotate_left
          · rw [if_neg c56] at H
            exact absurd H (by simp)
          rw [if_pos c56] at H
          have c56b0 : decide (0 ≤ t277) = true := decide_eq_true c56
          clear c56
          by_cases c57 : t277 < (l0_7.length : Int)
          rotate_left
          · rw [if_neg c57] at H
            exact absurd H (by simp)
          rw [if_pos c57] at H
          have c57b0 : decide (t277 < (l0_7.length : Int)) = true := decide_eq_true c57
          clear c57
          obtain ⟨ji58, hji58⟩ : ∃ j_ : Int, (wrap64 (((rd_T141 l0_16 a1).f1) + 1)) = j_ := ⟨_, rfl⟩
          replace H : (if 0 ≤ (ji58) then (if (ji58) < (((rd_T143 l0_15 a1).f0).length : Int) then (some (((rd_T84 l0_7 t277).f2) == (rd ((rd_T143 l0_15 a1).f0) (ji58)))) else (none)) else (none)) = some r := by first | (rw [hji58] at H; exact H) | (simp only [hji58] at H ⊢; exact H)
          have hji58w : (IntKind.i64.wrap (((rd_T141 l0_16 a1).f1) + 1)) = ji58 := (i64_w _).trans hji58
          by_cases c59 : 0 ≤ (ji58)
          rotate_left
          · rw [if_neg c59] at H
            exact absurd H (by simp)
          rw [if_pos c59] at H
          have c59b0 : decide (0 ≤ (ji58)) = true := decide_eq_true c59
          clear c59
          by_cases c60 : (ji58) < (((rd_T143 l0_15 a1).f0).length : Int)
          rotate_left
          · rw [if_neg c60] at H
            exact absurd H (by simp)
          rw [if_pos c60] at H
          have c60b0 : decide ((ji58) < (((rd_T143 l0_15 a1).f0).length : Int)) = true := decide_eq_true c60
          clear c60
          obtain rfl := Option.some.inj H
          have hnb61 := NB276_273.out
          have hnc61 := NB273_276.out
          have hcz62_0 : wc.cell? ⟨gb276, 0, none⟩ = some (.int .i64 ((rd_T141 l0_16 a1).f0)) := (bc BK276.out 0).trans rfl
          have hcz62_1 : wc.cell? ⟨gb276, 1, none⟩ = some (.int .i64 ((rd_T141 l0_16 a1).f1)) := (bc BK276.out 1).trans rfl
          have hcz62_2 : wc.cell? ⟨gb276, 2, none⟩ = some (.bool ((rd_T141 l0_16 a1).f2)) := (bc BK276.out 2).trans rfl
          have hfz62_0 := bz BK276.out 0
          have hfz62_1 := bz BK276.out 1
          have hfz62_2 := bz BK276.out 2
          try go_wp2
          have n0_ := Aside0.mk (bd BK273.out)
          have n1_ := Aside0.mk (bd BK276.out)
          have n2_ := Aside0.mk (wd HB.out)
          clear BK273
          clear BK276
          clear HB
          have BK273 := n0_
          have BK276 := n1_
          have HB := n2_
          clear n0_ n1_ n2_
          have p286 : 0 ≤ (t277 : Int) := of_decide_eq_true (by first | (with_reducible assumption) | assumption)
          have q286 : t277 < (l0_7.length : Int) := of_decide_eq_true (by first | (with_reducible assumption) | assumption)
          obtain ⟨ad286, e286, hx286_0, hx286_1, hx286_2, hx286_3⟩ := at_T84 HR0_7.out t277 p286 q286
          have hw286_3 := hx286_3
          have hw286_2 := hx286_2
          have hw286_1 := hx286_1
          have hw286_0 := hx286_0
          cases e286
          replace hx286_0 := (HB.out.cell (World.block_lt_of_cell? w _ hx286_0)).trans hx286_0
          replace hx286_1 := (HB.out.cell (World.block_lt_of_cell? w _ hx286_1)).trans hx286_1
          replace hx286_2 := (HB.out.cell (World.block_lt_of_cell? w _ hx286_2)).trans hx286_2
          replace hx286_3 := (HB.out.cell (World.block_lt_of_cell? w _ hx286_3)).trans hx286_3
          replace p286 := eq_true p286
          replace q286 := eq_true q286
          have p287 : 0 ≤ ((ji58) : Int) := of_decide_eq_true (by first | (with_reducible assumption) | assumption)
          have q287 : (ji58) < (((rd_T143 l0_15 a1).f0).length : Int) := of_decide_eq_true (by first | (with_reducible assumption) | assumption)
          obtain ⟨ad287, e287, hx287_0⟩ := Kd.at_int HR275_0.out (ji58) p287 q287
          have hw287_0 := hx287_0
          cases e287
          replace hx287_0 := (HB.out.cell (World.block_lt_of_cell? w _ hx287_0)).trans hx287_0
          replace p287 := eq_true p287
          replace q287 := eq_true q287
          refine start_ (n := 22) (S := fun w' => w'.cell? ⟨gb276, 0, none⟩ = some (.int .i64 ((rd_T141 l0_16 a1).f0)) ∧ w'.cell? ⟨gb276, 1, none⟩ = some (.int .i64 ((rd_T141 l0_16 a1).f1)) ∧ w'.cell? ⟨gb276, 2, none⟩ = some (.bool ((rd_T141 l0_16 a1).f2)) ∧ w'.cell? ⟨gb273, 7, none⟩ = some (.slice (some ad286) l0_7.length c0_7) ∧ w'.cell? ⟨gb273, 13, none⟩ = some (.int .i64 a0_13) ∧ w'.cell? (ad286.add ((t277).toNat * 4)) = some (.int .i64 ((rd_T84 l0_7 t277).f0)) ∧ w'.cell? ⟨(ad286.add ((t277).toNat * 4)).block, (ad286.add ((t277).toNat * 4)).off + 1, none⟩ = some (.int .i64 ((rd_T84 l0_7 t277).f1)) ∧ w'.cell? ⟨(ad286.add ((t277).toNat * 4)).block, (ad286.add ((t277).toNat * 4)).off + 2, none⟩ = some (.int .i64 ((rd_T84 l0_7 t277).f2)) ∧ w'.cell? ⟨(ad286.add ((t277).toNat * 4)).block, (ad286.add ((t277).toNat * 4)).off + 3, none⟩ = some (.bool ((rd_T84 l0_7 t277).f3)) ∧ w'.cell? (ad287.add ((ji58)).toNat) = some (.int .i64 (rd ((rd_T143 l0_15 a1).f0) (ji58)))) (ds := []) #[false, false, false, false, false, false, false, false, false, false, false, false, false, false, false, false, false, false, false, false, false, false] (by kernel_rfl) rfl rfl ⟨(bc BK276.out 0).trans rfl, (bc BK276.out 1).trans rfl, (bc BK276.out 2).trans rfl, (bc BK273.out 7).trans rfl, (bc BK273.out 13).trans rfl, ((HB.out.cell (World.block_lt_of_cell? w _ hw286_0)).trans hw286_0), ((HB.out.cell (World.block_lt_of_cell? w _ hw286_1)).trans hw286_1), ((HB.out.cell (World.block_lt_of_cell? w _ hw286_2)).trans hw286_2), ((HB.out.cell (World.block_lt_of_cell? w _ hw286_3)).trans hw286_3), ((HB.out.cell (World.block_lt_of_cell? w _ hw287_0)).trans hw287_0)⟩ (fun hHeld => ?_); refine with_tabW impl_isJob.tab8 impl_isJob.bits8 (fun HT_ HW_ => ?_)
          generalize wc.drew = w63 at BK273 BK276 HB hx286_0 hx286_1 hx286_2 hx286_3 hx287_0 hHeld ⊢
          refine plan_ [(0, 79, 0), (2, 81, 0), (3, 82, 0), (1, 80, 2), (4, 83, 2), (5, 84, 0), (6, 85, 0), (7, 86, 0), (9, 88, 0), (13, 92, 0), (14, 93, 0), (8, 87, 2), (10, 89, 0), (11, 90, 0), (12, 91, 2), (15, 94, 2), (16, 95, 0), (17, 96, 0), (18, 97, 2), (19, 98, 0), (20, 99, 0), (21, 6, 0)] ?_
          repeat (first | (refine p0_ (v := ?_) (a' := ?_) HT_.out (by rfl) (by rfl) (by rfl) (by kernel_rfl) (by exact fun _ _ _ h => h) (Or.inl ⟨by rfl, ?_⟩) ?_ ?_; rotate_left; (· (intro w'; go_simp; with_reducible rfl)); rotate_left; (· (simp only [Act.put, List.setIfInBounds_toArray, List.set_cons_zero, List.set_cons_succ, i64_w, i32_w]; rfl))) | (refine p2_ (v := ?_) (a' := ?_) HT_.out HW_.out (by rfl) (by rfl) (by rfl) (by kernel_rfl) (by exact fun _ _ _ h => h) (Or.inl ⟨by rfl, ?_⟩) hHeld ?_ ?_; rotate_left; (· (rintro w' ⟨s0, s1, s2, s3, s4, s5, s6, s7, s8, s9⟩; go_simp; with_reducible rfl)); rotate_left; (· (simp only [Act.put, List.setIfInBounds_toArray, List.set_cons_zero, List.set_cons_succ, i64_w, i32_w]; rfl))))
          with_reducible refine end_ ?_
          refine done_ (done_of HT_.out (by kernel_rfl)) ?_
          try go_wp2
          go_ret
          exact ⟨by first | rfl | (simp [errW_none, errW_some] <;> rfl) | (simp only [← hji58]; first | rfl | (simp [errW_none, errW_some] <;> rfl)) | (simp [*, errW_none, errW_some] <;> rfl), by repeat (first | (with_reducible first | exact HB.out | apply wa | apply wN | apply wd | refine ws ?_ GE273.out | refine ws ?_ GE276.out) | exact HB.out)⟩

end Go.Proofs.Ytfinjkjnoobbjaa.MFnExactJobsOk
