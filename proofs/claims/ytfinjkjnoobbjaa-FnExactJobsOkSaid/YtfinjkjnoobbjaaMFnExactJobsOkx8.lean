/- Made by a program of this session (out of the kit's print, with hand-made contracts): what each Go function that the law reaches computes, and that the machine's call does so. -/
import Derived.Test.YtfinjkjnoobbjaaXFnExactJobsOkMyReg
import Derived.Test.YtfinjkjnoobbjaaXFnExactJobsOkMyHof
import Derived.Test.YtfinjkjnoobbjaaMFnExactJobsOkx0
import Derived.Test.YtfinjkjnoobbjaaMFnExactJobsOkx6
import Derived.Test.YtfinjkjnoobbjaaMFnExactJobsOkx7
namespace Go.Proofs.Ytfinjkjnoobbjaa.MFnExactJobsOk
open Go.RowKit Go.Proofs.YtfinjkjnoobbjaaW.PrintWords Go.Proofs.YtfinjkjnoobbjaaW.PrintLast Go.Proofs.YtfinjkjnoobbjaaW.PrintMore Go.Proofs.Ytfinjkjnoobbjaa.MyReg
attribute [local go_sem] max2_int min2_int max_two min_two max_three min_three max_four min_four   -- for this text's walks alone
set_option linter.unusedVariables false
set_option linter.unusedSimpArgs false

/-! ### spec_l21Job: function 115 -/
mutual
def spec_l21Job.j0 : Nat → Int → List Int → Int → Bool → Int → Int → ByteArray → Int → Int → Int → Int → List (S84) → Int → Int → List Int → Int → Bool → Int → Int → List (S143) → List (S141) → List Int → Int → Int → Bool → Option (Bool)
  | 0, _, _, _, _, _, _, _, _, _, _, _, _, _, _, _, _, _, _, _, _, _, _, _, _, _ => none
  | k + 1, x1, x6, x7, x61, x162000, x162001, x162002, x162003, x162004, x162005, x162006, x162007, x162008, x162009, x162010, x162011, x162012, x162013, x162014, x162015, x162016, x162017, x164000, x164001, x164002 => if x61 = true then (some false) else (spec_l21Job.l0 k x1 x6 x7 0 x162000 x162001 x162002 x162003 x162004 x162005 x162006 x162007 x162008 x162009 x162010 x162011 x162012 x162013 x162014 x162015 x162016 x162017 x164000 x164001 x164002)
def spec_l21Job.l0 : Nat → Int → List Int → Int → Int → Int → Int → ByteArray → Int → Int → Int → Int → List (S84) → Int → Int → List Int → Int → Bool → Int → Int → List (S143) → List (S141) → List Int → Int → Int → Bool → Option (Bool)
  | 0, _, _, _, _, _, _, _, _, _, _, _, _, _, _, _, _, _, _, _, _, _, _, _, _, _ => none
  | k + 1, x1, x6, x7, x8, x162000, x162001, x162002, x162003, x162004, x162005, x162006, x162007, x162008, x162009, x162010, x162011, x162012, x162013, x162014, x162015, x162016, x162017, x164000, x164001, x164002 => if x8 < x1 then (if 0 ≤ x8 then (if x8 < (x162016.length : Int) then (if ((rd_T141 x162016 x8).f0) = x164000 then (some false) else (spec_l21Job.l0 k x1 x6 x7 (wrap64 (x8 + 1)) x162000 x162001 x162002 x162003 x162004 x162005 x162006 x162007 x162008 x162009 x162010 x162011 x162012 x162013 x162014 x162015 x162016 x162017 x164000 x164001 x164002)) else (none)) else (none)) else (if 0 ≤ x7 then (if x7 < (x162007.length : Int) then (if 0 ≤ x164001 then (if x164001 < (x6.length : Int) then (if ((rd_T84 x162007 x7).f1) = (rd x6 x164001) then (if x164002 = true then (if x164001 < x162013 then (if 0 ≤ (wrap64 (x164001 + 1)) then (if (wrap64 (x164001 + 1)) < (x6.length : Int) then (some (((rd_T84 x162007 x7).f2) == (rd x6 (wrap64 (x164001 + 1))))) else (none)) else (none)) else (some false)) else (some (((rd_T84 x162007 x7).f2) == (-1)))) else (some false)) else (none)) else (none)) else (none)) else (none))
end
def spec_l21Job.f (k : Nat) (a0_0 : Int) (a0_1 : Int) (a0_2 : ByteArray) (a0_3 : Int) (a0_4 : Int) (a0_5 : Int) (a0_6 : Int) (l0_7 : List (S84)) (a0_8 : Int) (a0_9 : Int) (l0_10 : List Int) (a0_11 : Int) (a0_12 : Bool) (a0_13 : Int) (a0_14 : Int) (l0_15 : List (S143)) (l0_16 : List (S141)) (l0_17 : List Int) (a1 : Int) : Option (Bool) := if 0 ≤ a1 then (if a1 < (l0_16.length : Int) then (if a1 < (l0_15.length : Int) then ((spec_RobotAt.f k l0_7 ((rd_T141 l0_16 a1).f0)).bind fun t165 => (if (wrap64 ((((rd_T143 l0_15 a1).f0).length : Int) - 1)) = a0_13 then (if t165 < 0 then (spec_l21Job.j0 k a1 ((rd_T143 l0_15 a1).f0) t165 true a0_0 a0_1 a0_2 a0_3 a0_4 a0_5 a0_6 l0_7 a0_8 a0_9 l0_10 a0_11 a0_12 a0_13 a0_14 l0_15 l0_16 l0_17 ((rd_T141 l0_16 a1).f0) ((rd_T141 l0_16 a1).f1) ((rd_T141 l0_16 a1).f2)) else (if 0 ≤ t165 then (if t165 < (l0_7.length : Int) then (if (rd_T84 l0_7 t165).f3 = true then (spec_l21Job.j0 k a1 ((rd_T143 l0_15 a1).f0) t165 true a0_0 a0_1 a0_2 a0_3 a0_4 a0_5 a0_6 l0_7 a0_8 a0_9 l0_10 a0_11 a0_12 a0_13 a0_14 l0_15 l0_16 l0_17 ((rd_T141 l0_16 a1).f0) ((rd_T141 l0_16 a1).f1) ((rd_T141 l0_16 a1).f2)) else ((spec_l01In.f ((rd_T141 l0_16 a1).f1) 0 a0_13).bind fun t167 => (if t167 = true then ((spec_LayerOf.f k a0_0 a0_1 a0_2 a0_3 a0_4 a0_5 a0_6 l0_7 a0_8 a0_9 l0_10 a0_11 a0_12 a0_13 a0_14 l0_15 l0_16 l0_17).bind fun t168 => (spec_l21Job.j0 k a1 ((rd_T143 l0_15 a1).f0) t165 (decide (((rd_T141 l0_16 a1).f1) > (wrap64 (t168 + 1)))) a0_0 a0_1 a0_2 a0_3 a0_4 a0_5 a0_6 l0_7 a0_8 a0_9 l0_10 a0_11 a0_12 a0_13 a0_14 l0_15 l0_16 l0_17 ((rd_T141 l0_16 a1).f0) ((rd_T141 l0_16 a1).f1) ((rd_T141 l0_16 a1).f2))) else (spec_l21Job.j0 k a1 ((rd_T143 l0_15 a1).f0) t165 true a0_0 a0_1 a0_2 a0_3 a0_4 a0_5 a0_6 l0_7 a0_8 a0_9 l0_10 a0_11 a0_12 a0_13 a0_14 l0_15 l0_16 l0_17 ((rd_T141 l0_16 a1).f0) ((rd_T141 l0_16 a1).f1) ((rd_T141 l0_16 a1).f2))))) else (none)) else (none))) else (spec_l21Job.j0 k a1 ((rd_T143 l0_15 a1).f0) t165 true a0_0 a0_1 a0_2 a0_3 a0_4 a0_5 a0_6 l0_7 a0_8 a0_9 l0_10 a0_11 a0_12 a0_13 a0_14 l0_15 l0_16 l0_17 ((rd_T141 l0_16 a1).f0) ((rd_T141 l0_16 a1).f1) ((rd_T141 l0_16 a1).f2)))) else (none)) else (none)) else (none)
theorem spec_l21Job.mono_l : ∀ k, (∀ y0 y1 y2 y3 y4 y5 y6 y7 y8 y9 y10 y11 y12 y13 y14 y15 y16 y17 y18 y19 y20 y21 y22 y23 y24, LeO (spec_l21Job.j0 k y0 y1 y2 y3 y4 y5 y6 y7 y8 y9 y10 y11 y12 y13 y14 y15 y16 y17 y18 y19 y20 y21 y22 y23 y24) (spec_l21Job.j0 (k + 1) y0 y1 y2 y3 y4 y5 y6 y7 y8 y9 y10 y11 y12 y13 y14 y15 y16 y17 y18 y19 y20 y21 y22 y23 y24)) ∧ (∀ y0 y1 y2 y3 y4 y5 y6 y7 y8 y9 y10 y11 y12 y13 y14 y15 y16 y17 y18 y19 y20 y21 y22 y23 y24, LeO (spec_l21Job.l0 k y0 y1 y2 y3 y4 y5 y6 y7 y8 y9 y10 y11 y12 y13 y14 y15 y16 y17 y18 y19 y20 y21 y22 y23 y24) (spec_l21Job.l0 (k + 1) y0 y1 y2 y3 y4 y5 y6 y7 y8 y9 y10 y11 y12 y13 y14 y15 y16 y17 y18 y19 y20 y21 y22 y23 y24))
  | 0 => ⟨fun _ _ _ _ _ _ _ _ _ _ _ _ _ _ _ _ _ _ _ _ _ _ _ _ _ r h => by simp [spec_l21Job.j0] at h, fun _ _ _ _ _ _ _ _ _ _ _ _ _ _ _ _ _ _ _ _ _ _ _ _ _ r h => by simp [spec_l21Job.l0] at h⟩
  | k + 1 => by
    obtain ⟨ih0, ih1⟩ := spec_l21Job.mono_l k
    refine ⟨?_, ?_⟩
    · intro y0 y1 y2 y3 y4 y5 y6 y7 y8 y9 y10 y11 y12 y13 y14 y15 y16 y17 y18 y19 y20 y21 y22 y23 y24
      unfold spec_l21Job.j0
      repeat' first
      | (with_reducible exact ih0 _ _ _ _ _ _ _ _ _ _ _ _ _ _ _ _ _ _ _ _ _ _ _ _ _)
      | (with_reducible exact ih1 _ _ _ _ _ _ _ _ _ _ _ _ _ _ _ _ _ _ _ _ _ _ _ _ _)
      | (with_reducible exact spec_LayerOf.mono _ _ _ _ _ _ _ _ _ _ _ _ _ _ _ _ _ _ _)
      | (with_reducible exact spec_RobotAt.mono _ _ _)
      | (with_reducible exact LeO.refl _)
      | (with_reducible exact LeO.none _)
      | (with_reducible refine LeO.ite ?_ ?_)
      | (with_reducible refine LeO.bind ?_ (fun _ => ?_))
      | exact ih0 _ _ _ _ _ _ _ _ _ _ _ _ _ _ _ _ _ _ _ _ _ _ _ _ _
      | exact ih1 _ _ _ _ _ _ _ _ _ _ _ _ _ _ _ _ _ _ _ _ _ _ _ _ _
      | exact spec_LayerOf.mono _ _ _ _ _ _ _ _ _ _ _ _ _ _ _ _ _ _ _
      | exact spec_RobotAt.mono _ _ _
      | exact LeO.none _
      | refine LeO.ite ?_ ?_
      | refine LeO.bind ?_ (fun _ => ?_)
    · intro y0 y1 y2 y3 y4 y5 y6 y7 y8 y9 y10 y11 y12 y13 y14 y15 y16 y17 y18 y19 y20 y21 y22 y23 y24
      unfold spec_l21Job.l0
      repeat' first
      | (with_reducible exact ih0 _ _ _ _ _ _ _ _ _ _ _ _ _ _ _ _ _ _ _ _ _ _ _ _ _)
      | (with_reducible exact ih1 _ _ _ _ _ _ _ _ _ _ _ _ _ _ _ _ _ _ _ _ _ _ _ _ _)
      | (with_reducible exact spec_LayerOf.mono _ _ _ _ _ _ _ _ _ _ _ _ _ _ _ _ _ _ _)
      | (with_reducible exact spec_RobotAt.mono _ _ _)
      | (with_reducible exact LeO.refl _)
      | (with_reducible exact LeO.none _)
      | (with_reducible refine LeO.ite ?_ ?_)
      | (with_reducible refine LeO.bind ?_ (fun _ => ?_))
      | exact ih0 _ _ _ _ _ _ _ _ _ _ _ _ _ _ _ _ _ _ _ _ _ _ _ _ _
      | exact ih1 _ _ _ _ _ _ _ _ _ _ _ _ _ _ _ _ _ _ _ _ _ _ _ _ _
      | exact spec_LayerOf.mono _ _ _ _ _ _ _ _ _ _ _ _ _ _ _ _ _ _ _
      | exact spec_RobotAt.mono _ _ _
      | exact LeO.none _
      | refine LeO.ite ?_ ?_
      | refine LeO.bind ?_ (fun _ => ?_)
theorem spec_l21Job.mono : ∀ a0 a1 a2 a3 a4 a5 a6 a7 a8 a9 a10 a11 a12 a13 a14 a15 a16 a17 a18 k, LeO (spec_l21Job.f k a0 a1 a2 a3 a4 a5 a6 a7 a8 a9 a10 a11 a12 a13 a14 a15 a16 a17 a18) (spec_l21Job.f (k + 1) a0 a1 a2 a3 a4 a5 a6 a7 a8 a9 a10 a11 a12 a13 a14 a15 a16 a17 a18) := by
  intro a0 a1 a2 a3 a4 a5 a6 a7 a8 a9 a10 a11 a12 a13 a14 a15 a16 a17 a18 k
  obtain ⟨ih0, ih1⟩ := spec_l21Job.mono_l k
  unfold spec_l21Job.f
  repeat' first
      | (with_reducible exact ih0 _ _ _ _ _ _ _ _ _ _ _ _ _ _ _ _ _ _ _ _ _ _ _ _ _)
      | (with_reducible exact ih1 _ _ _ _ _ _ _ _ _ _ _ _ _ _ _ _ _ _ _ _ _ _ _ _ _)
      | (with_reducible exact spec_LayerOf.mono _ _ _ _ _ _ _ _ _ _ _ _ _ _ _ _ _ _ _)
      | (with_reducible exact spec_RobotAt.mono _ _ _)
      | (with_reducible exact LeO.refl _)
      | (with_reducible exact LeO.none _)
      | (with_reducible refine LeO.ite ?_ ?_)
      | (with_reducible refine LeO.bind ?_ (fun _ => ?_))
      | exact ih0 _ _ _ _ _ _ _ _ _ _ _ _ _ _ _ _ _ _ _ _ _ _ _ _ _
      | exact ih1 _ _ _ _ _ _ _ _ _ _ _ _ _ _ _ _ _ _ _ _ _ _ _ _ _
      | exact spec_LayerOf.mono _ _ _ _ _ _ _ _ _ _ _ _ _ _ _ _ _ _ _
      | exact spec_RobotAt.mono _ _ _
      | exact LeO.none _
      | refine LeO.ite ?_ ?_
      | refine LeO.bind ?_ (fun _ => ?_)
def spec_l21Job.T4 : Bool × List (List Nat × List Nat) := (true, [([], []), ([0], [0]), ([1], [1]), ([], []), ([3], [3]), ([4], [4]), ([2, 5], [2, 5]), ([6], [6]), ([7], [7]), ([8, 7], [7, 8]), ([7, 9], [7, 9]), ([10, 7], [10]), ([11], [11]), ([12, 11], [11, 12]), ([11], [11]), ([13, 14, 11], [11, 13, 14]), ([15, 11], [11, 15]), ([16, 11], [11, 16]), ([11, 17], [11, 17]), ([18, 11], [18]), ([19], [19]), ([20, 19], [19, 20]), ([19], [19]), ([22, 19], [19, 22]), ([23, 19], [19, 23]), ([21, 24, 19, 19], [19, 21, 24]), ([25, 19], [19, 25]), ([19, 26], [19, 26]), ([27, 25], [27]), ([28], [28]), ([29, 28], [28, 29]), ([28], [28]), ([31, 28, 28], [28, 31]), ([32, 28], [28, 32]), ([30, 33, 28], [28, 30, 33]), ([28, 34], [28, 34])])
def spec_l21Job.B4 : List Nat := [0, 1, 3, 0, 8, 24, 63, 127, 255, 511, 1023, 2047, 4095, 8191, 4095, 32767, 65535, 131071, 262143, 524287, 1048575, 2097151, 1048575, 5242879, 13631487, 33554431, 67108863, 134217727, 268435455, 536870911, 1073741823, 536870911, 2684354559, 6979321855, 17179869183, 34359738367]
theorem spec_l21Job.tab4 : rtab .any (opsOf Try.f115 4) = spec_l21Job.T4 := by kernel_rfl
theorem spec_l21Job.bits4 : waitsOk spec_l21Job.T4.2 spec_l21Job.B4 = true := by kernel_rfl
def spec_l21Job.T9 : Bool × List (List Nat × List Nat) := (true, [([], []), ([0], [0]), ([], []), ([1, 2], [1, 2]), ([3], [3]), ([4], [4]), ([], []), ([6], [6]), ([5, 7], [5, 7])])
def spec_l21Job.B9 : List Nat := [0, 1, 0, 7, 15, 31, 0, 64, 255]
theorem spec_l21Job.tab9 : rtab .any (opsOf Try.f115 9) = spec_l21Job.T9 := by kernel_rfl
theorem spec_l21Job.bits9 : waitsOk spec_l21Job.T9.2 spec_l21Job.B9 = true := by kernel_rfl
def spec_l21Job.T11 : Bool × List (List Nat × List Nat) := (true, [([], []), ([0], [0]), ([], []), ([1, 2], [1, 2]), ([3], [3]), ([4], [4]), ([], []), ([], []), ([7], [7]), ([6, 8], [6, 8]), ([9], [9]), ([5, 10], [5, 10])])
def spec_l21Job.B11 : List Nat := [0, 1, 0, 7, 15, 31, 0, 0, 128, 448, 960, 2047]
theorem spec_l21Job.tab11 : rtab .any (opsOf Try.f115 11) = spec_l21Job.T11 := by kernel_rfl
theorem spec_l21Job.bits11 : waitsOk spec_l21Job.T11.2 spec_l21Job.B11 = true := by kernel_rfl
def spec_l21Job.T14 : Bool × List (List Nat × List Nat) := (true, [([], []), ([0], [0]), ([], []), ([2], [2]), ([3], [3]), ([1, 4], [1, 4]), ([5], [5]), ([6], [6]), ([7, 6], [6, 7]), ([6], [6]), ([8, 9, 6], [6, 8, 9]), ([10, 6], [6, 10]), ([11, 6], [6, 11]), ([6], [6]), ([6], [6]), ([14, 6], [6, 14]), ([15, 6], [6, 15]), ([13, 16, 6], [6, 13, 16]), ([17, 6], [6, 17]), ([12, 18, 6], [6, 12, 18]), ([6, 19], [6, 19]), ([20, 6, 0, 1, 2, 3, 4, 5, 6, 7, 8, 9, 10, 11, 12, 13, 14, 15, 16, 17, 18, 19, 20], [20])])
def spec_l21Job.B14 : List Nat := [0, 1, 0, 4, 12, 31, 63, 127, 255, 127, 1023, 2047, 4095, 127, 127, 16511, 49279, 123007, 254079, 524287, 1048575, 2097151]
theorem spec_l21Job.tab14 : rtab .any (opsOf Try.f115 14) = spec_l21Job.T14 := by kernel_rfl
theorem spec_l21Job.bits14 : waitsOk spec_l21Job.T14.2 spec_l21Job.B14 = true := by kernel_rfl
set_option maxHeartbeats 8000000 in
set_option maxRecDepth 100000 in
theorem spec_l21Job.calls (k : Nat) (a0_0 : Int) (a0_1 : Int) (a0_2 : ByteArray) (a0_3 : Int) (a0_4 : Int) (a0_5 : Int) (a0_6 : Int) (A0_7 : Option Addr) (c0_7 : Nat) (l0_7 : List (S84)) (a0_8 : Int) (a0_9 : Int) (A0_10 : Option Addr) (c0_10 : Nat) (l0_10 : List Int) (a0_11 : Int) (a0_12 : Bool) (a0_13 : Int) (a0_14 : Int) (A0_15 : Option Addr) (c0_15 : Nat) (l0_15 : List (S143)) (A0_16 : Option Addr) (c0_16 : Nat) (l0_16 : List (S141)) (A0_17 : Option Addr) (c0_17 : Nat) (l0_17 : List Int) (a1 : Int) (r : Bool) (w : World) (hr0_7 : Kd.C k84 w A0_7 l0_7.length l0_7) (hc0_7 : l0_7.length ≤ c0_7) (hr0_10 : Kd.C (Kd.int .i64) w A0_10 l0_10.length l0_10) (hc0_10 : l0_10.length ≤ c0_10) (hr0_15 : Kd.C k143 w A0_15 l0_15.length l0_15) (hc0_15 : l0_15.length ≤ c0_15) (hr0_16 : Kd.C k141 w A0_16 l0_16.length l0_16) (hc0_16 : l0_16.length ≤ c0_16) (hr0_17 : Kd.C (Kd.int .i64) w A0_17 l0_17.length l0_17) (hc0_17 : l0_17.length ≤ c0_17) (h : spec_l21Job.f k a0_0 a0_1 a0_2 a0_3 a0_4 a0_5 a0_6 l0_7 a0_8 a0_9 l0_10 a0_11 a0_12 a0_13 a0_14 l0_15 l0_16 l0_17 a1 = some r) :
    Calls Try.prog 115 #[.agg #[.int .i64 a0_0, .int .i64 a0_1, .string a0_2, .int .i64 a0_3, .int .i64 a0_4, .int .i64 a0_5, .int .i64 a0_6, .slice A0_7 l0_7.length c0_7, .int .i64 a0_8, .int .i64 a0_9, .slice A0_10 l0_10.length c0_10, .int .i64 a0_11, .bool a0_12, .int .i64 a0_13, .int .i64 a0_14, .slice A0_15 l0_15.length c0_15, .slice A0_16 l0_16.length c0_16, .slice A0_17 l0_17.length c0_17], .int .i64 a1] w fun e w' => e = .returned (.bool r) ∧ Below w.heap.size w w' := by
  have hu39 := Try.underlying39
  have hu141 := Try.underlying141
  have HR0_7 := Aside0.mk hr0_7
  have HC0_7 := Aside0.mk hc0_7
  clear hr0_7 hc0_7
  have HR0_10 := Aside0.mk hr0_10
  have HC0_10 := Aside0.mk hc0_10
  clear hr0_10 hc0_10
  have HR0_15 := Aside0.mk hr0_15
  have HC0_15 := Aside0.mk hc0_15
  clear hr0_15 hc0_15
  have HR0_16 := Aside0.mk hr0_16
  have HC0_16 := Aside0.mk hc0_16
  clear hr0_16 hc0_16
  have HR0_17 := Aside0.mk hr0_17
  have HC0_17 := Aside0.mk hc0_17
  clear hr0_17 hc0_17
  have HB := Aside0.mk (Below.refl w.heap.size w)
  have H : (if 0 ≤ a1 then (if a1 < (l0_16.length : Int) then (if a1 < (l0_15.length : Int) then ((spec_RobotAt.f k l0_7 ((rd_T141 l0_16 a1).f0)).bind fun t165 => (if (wrap64 ((((rd_T143 l0_15 a1).f0).length : Int) - 1)) = a0_13 then (if t165 < 0 then (spec_l21Job.j0 k a1 ((rd_T143 l0_15 a1).f0) t165 true a0_0 a0_1 a0_2 a0_3 a0_4 a0_5 a0_6 l0_7 a0_8 a0_9 l0_10 a0_11 a0_12 a0_13 a0_14 l0_15 l0_16 l0_17 ((rd_T141 l0_16 a1).f0) ((rd_T141 l0_16 a1).f1) ((rd_T141 l0_16 a1).f2)) else (if 0 ≤ t165 then (if t165 < (l0_7.length : Int) then (if (rd_T84 l0_7 t165).f3 = true then (spec_l21Job.j0 k a1 ((rd_T143 l0_15 a1).f0) t165 true a0_0 a0_1 a0_2 a0_3 a0_4 a0_5 a0_6 l0_7 a0_8 a0_9 l0_10 a0_11 a0_12 a0_13 a0_14 l0_15 l0_16 l0_17 ((rd_T141 l0_16 a1).f0) ((rd_T141 l0_16 a1).f1) ((rd_T141 l0_16 a1).f2)) else ((spec_l01In.f ((rd_T141 l0_16 a1).f1) 0 a0_13).bind fun t167 => (if t167 = true then ((spec_LayerOf.f k a0_0 a0_1 a0_2 a0_3 a0_4 a0_5 a0_6 l0_7 a0_8 a0_9 l0_10 a0_11 a0_12 a0_13 a0_14 l0_15 l0_16 l0_17).bind fun t168 => (spec_l21Job.j0 k a1 ((rd_T143 l0_15 a1).f0) t165 (decide (((rd_T141 l0_16 a1).f1) > (wrap64 (t168 + 1)))) a0_0 a0_1 a0_2 a0_3 a0_4 a0_5 a0_6 l0_7 a0_8 a0_9 l0_10 a0_11 a0_12 a0_13 a0_14 l0_15 l0_16 l0_17 ((rd_T141 l0_16 a1).f0) ((rd_T141 l0_16 a1).f1) ((rd_T141 l0_16 a1).f2))) else (spec_l21Job.j0 k a1 ((rd_T143 l0_15 a1).f0) t165 true a0_0 a0_1 a0_2 a0_3 a0_4 a0_5 a0_6 l0_7 a0_8 a0_9 l0_10 a0_11 a0_12 a0_13 a0_14 l0_15 l0_16 l0_17 ((rd_T141 l0_16 a1).f0) ((rd_T141 l0_16 a1).f1) ((rd_T141 l0_16 a1).f2))))) else (none)) else (none))) else (spec_l21Job.j0 k a1 ((rd_T143 l0_15 a1).f0) t165 true a0_0 a0_1 a0_2 a0_3 a0_4 a0_5 a0_6 l0_7 a0_8 a0_9 l0_10 a0_11 a0_12 a0_13 a0_14 l0_15 l0_16 l0_17 ((rd_T141 l0_16 a1).f0) ((rd_T141 l0_16 a1).f1) ((rd_T141 l0_16 a1).f2)))) else (none)) else (none)) else (none)) = some r := h
  clear h
  by_cases c3 : 0 ≤ a1
  rotate_left
  · rw [if_neg c3] at H
    exact absurd H (by simp)
  rw [if_pos c3] at H
  have c3b0 : decide (0 ≤ a1) = true := decide_eq_true c3
  clear c3
  by_cases c4 : a1 < (l0_16.length : Int)
  rotate_left
  · rw [if_neg c4] at H
    exact absurd H (by simp)
  rw [if_pos c4] at H
  have c4b0 : decide (a1 < (l0_16.length : Int)) = true := decide_eq_true c4
  clear c4
  by_cases c5 : a1 < (l0_15.length : Int)
  rotate_left
  · rw [if_neg c5] at H
    exact absurd H (by simp)
  rw [if_pos c5] at H
  have c5b0 : decide (a1 < (l0_15.length : Int)) = true := decide_eq_true c5
  clear c5
  replace H := Option.bind_eq_some_iff.mp H
  obtain ⟨t165, A60, H⟩ := H
  replace H : (if (wrap64 ((((rd_T143 l0_15 a1).f0).length : Int) - 1)) = a0_13 then (if t165 < 0 then (spec_l21Job.j0 k a1 ((rd_T143 l0_15 a1).f0) t165 true a0_0 a0_1 a0_2 a0_3 a0_4 a0_5 a0_6 l0_7 a0_8 a0_9 l0_10 a0_11 a0_12 a0_13 a0_14 l0_15 l0_16 l0_17 ((rd_T141 l0_16 a1).f0) ((rd_T141 l0_16 a1).f1) ((rd_T141 l0_16 a1).f2)) else (if 0 ≤ t165 then (if t165 < (l0_7.length : Int) then (if (rd_T84 l0_7 t165).f3 = true then (spec_l21Job.j0 k a1 ((rd_T143 l0_15 a1).f0) t165 true a0_0 a0_1 a0_2 a0_3 a0_4 a0_5 a0_6 l0_7 a0_8 a0_9 l0_10 a0_11 a0_12 a0_13 a0_14 l0_15 l0_16 l0_17 ((rd_T141 l0_16 a1).f0) ((rd_T141 l0_16 a1).f1) ((rd_T141 l0_16 a1).f2)) else ((spec_l01In.f ((rd_T141 l0_16 a1).f1) 0 a0_13).bind fun t167 => (if t167 = true then ((spec_LayerOf.f k a0_0 a0_1 a0_2 a0_3 a0_4 a0_5 a0_6 l0_7 a0_8 a0_9 l0_10 a0_11 a0_12 a0_13 a0_14 l0_15 l0_16 l0_17).bind fun t168 => (spec_l21Job.j0 k a1 ((rd_T143 l0_15 a1).f0) t165 (decide (((rd_T141 l0_16 a1).f1) > (wrap64 (t168 + 1)))) a0_0 a0_1 a0_2 a0_3 a0_4 a0_5 a0_6 l0_7 a0_8 a0_9 l0_10 a0_11 a0_12 a0_13 a0_14 l0_15 l0_16 l0_17 ((rd_T141 l0_16 a1).f0) ((rd_T141 l0_16 a1).f1) ((rd_T141 l0_16 a1).f2))) else (spec_l21Job.j0 k a1 ((rd_T143 l0_15 a1).f0) t165 true a0_0 a0_1 a0_2 a0_3 a0_4 a0_5 a0_6 l0_7 a0_8 a0_9 l0_10 a0_11 a0_12 a0_13 a0_14 l0_15 l0_16 l0_17 ((rd_T141 l0_16 a1).f0) ((rd_T141 l0_16 a1).f1) ((rd_T141 l0_16 a1).f2))))) else (none)) else (none))) else (spec_l21Job.j0 k a1 ((rd_T143 l0_15 a1).f0) t165 true a0_0 a0_1 a0_2 a0_3 a0_4 a0_5 a0_6 l0_7 a0_8 a0_9 l0_10 a0_11 a0_12 a0_13 a0_14 l0_15 l0_16 l0_17 ((rd_T141 l0_16 a1).f0) ((rd_T141 l0_16 a1).f1) ((rd_T141 l0_16 a1).f2))) = some r := H
  have A6 := Aside0.mk A60
  clear A60
  have HC7 := Aside0.mk H
  clear H
  go_enter Try.func115, Try.ntmps115
  go_upto_region 4 with (first | ((with_reducible refine gate_dst (N := 2) rfl ?_); refine box_event ?hg (N := 2) ?hd (cs := #[.int .i64 a0_0, .int .i64 a0_1, .string a0_2, .int .i64 a0_3, .int .i64 a0_4, .int .i64 a0_5, .int .i64 a0_6, .slice A0_7 l0_7.length c0_7, .int .i64 a0_8, .int .i64 a0_9, .slice A0_10 l0_10.length c0_10, .int .i64 a0_11, .bool a0_12, .int .i64 a0_13, .int .i64 a0_14, .slice A0_15 l0_15.length c0_15, .slice A0_16 l0_16.length c0_16, .slice A0_17 l0_17.length c0_17]) (t := 39) ?hr ?_; (case hd => rfl); (case hg => rfl); (case hr => first | (go_simp; done) | (go_simp; rfl)); intro gb161 hg w8 hbox hb; have n0_ := Aside0.mk (below_step (by repeat (first | (with_reducible first | exact HB.out | apply wa | apply wN | apply wd) | exact HB.out)) hb); have n1_ := Aside0.mk (hbox); have n2_ := Aside0.mk ((by rw [hg]; exact (below_size (by repeat (first | (with_reducible first | exact HB.out | apply wa | apply wN | apply wd) | exact HB.out))) : w.heap.size ≤ gb161)); have n3_ := n2_; clear HB; have HB := n0_; have BK161 := n1_; have GW161 := n2_; have GE161 := n3_; clear n0_ n1_ n2_ n3_; clear hb hbox hg; have hcz9_7 : w8.cell? ⟨gb161, 7, none⟩ = some (.slice A0_7 l0_7.length c0_7) := (bc BK161.out 7).trans rfl; have hcz9_13 : w8.cell? ⟨gb161, 13, none⟩ = some (.int .i64 a0_13) := (bc BK161.out 13).trans rfl; have hcz9_15 : w8.cell? ⟨gb161, 15, none⟩ = some (.slice A0_15 l0_15.length c0_15) := (bc BK161.out 15).trans rfl; have hcz9_16 : w8.cell? ⟨gb161, 16, none⟩ = some (.slice A0_16 l0_16.length c0_16) := (bc BK161.out 16).trans rfl; have p162 : 0 ≤ (a1 : Int) := of_decide_eq_true (by first | (with_reducible assumption) | assumption); have q162 : a1 < (l0_16.length : Int) := of_decide_eq_true (by first | (with_reducible assumption) | assumption); obtain ⟨ad162, e162, hx162_0, hx162_1, hx162_2⟩ := at_T141 HR0_16.out a1 p162 q162; cases e162; replace hx162_0 := (HB.out.cell (World.block_lt_of_cell? w _ hx162_0)).trans hx162_0; replace hx162_1 := (HB.out.cell (World.block_lt_of_cell? w _ hx162_1)).trans hx162_1; replace hx162_2 := (HB.out.cell (World.block_lt_of_cell? w _ hx162_2)).trans hx162_2; replace p162 := eq_true p162; replace q162 := eq_true q162) | ((with_reducible refine gate_dst (N := 5) rfl ?_); refine box_event ?hg (N := 5) ?hd (cs := #[.int .i64 0, .int .i64 0, .bool false]) (t := 141) ?hr ?_; (case hd => rfl); (case hg => rfl); (case hr => first | (go_simp; done) | (go_simp; rfl)); intro gb163 hg w10 hbox hb; have n0_ := Aside0.mk (bb (g := gb161) (by first | (with_reducible exact BK161.out) | (with_reducible exact bN BK161.out _) | (with_reducible exact bd BK161.out) | ((with_reducible repeat first | apply bN | apply bd | apply ba); exact BK161.out)) hb); have n1_ := Aside0.mk (below_step (by repeat (first | (with_reducible first | exact HB.out | apply wa | apply wN | apply wd | refine ws ?_ GE161.out) | exact HB.out)) hb); have n2_ := Aside0.mk (hbox); have n3_ := Aside0.mk ((by rw [hg]; exact (below_size (by repeat (first | (with_reducible first | exact HB.out | apply wa | apply wN | apply wd | refine ws ?_ GE161.out) | exact HB.out))) : w.heap.size ≤ gb163)); have n4_ := n3_; have n5_ := Aside0.mk ((by rw [hg]; exact Nat.ne_of_lt (blk_lt (g := gb161) (by (with_reducible repeat first | apply bN | apply bd | apply ba); exact BK161.out)) : gb161 ≠ gb163)); have n6_ := Aside0.mk ((by rw [hg]; exact Nat.ne_of_gt (blk_lt (g := gb161) (by (with_reducible repeat first | apply bN | apply bd | apply ba); exact BK161.out)) : gb163 ≠ gb161)); clear BK161; clear HB; have BK161 := n0_; have HB := n1_; have BK163 := n2_; have GW163 := n3_; have GE163 := n4_; have NB161_163 := n5_; have NB163_161 := n6_; clear n0_ n1_ n2_ n3_ n4_ n5_ n6_; clear hb hbox hg; have hnb11 := NB163_161.out; have hnc11 := NB161_163.out; have hcz12_0 : w10.cell? ⟨gb163, 0, none⟩ = some (.int .i64 0) := (bc BK163.out 0).trans rfl; have hcz12_1 : w10.cell? ⟨gb163, 1, none⟩ = some (.int .i64 0) := (bc BK163.out 1).trans rfl; have hcz12_2 : w10.cell? ⟨gb163, 2, none⟩ = some (.bool false) := (bc BK163.out 2).trans rfl; have hfz12_0 := bz BK163.out 0; have hfz12_1 := bz BK163.out 1; have hfz12_2 := bz BK163.out 2; have hcz13_7 : w10.cell? ⟨gb161, 7, none⟩ = some (.slice A0_7 l0_7.length c0_7) := (bc BK161.out 7).trans rfl; have hcz13_13 : w10.cell? ⟨gb161, 13, none⟩ = some (.int .i64 a0_13) := (bc BK161.out 13).trans rfl; have hcz13_15 : w10.cell? ⟨gb161, 15, none⟩ = some (.slice A0_15 l0_15.length c0_15) := (bc BK161.out 15).trans rfl; have hcz13_16 : w10.cell? ⟨gb161, 16, none⟩ = some (.slice (some ad162) l0_16.length c0_16) := (bc BK161.out 16).trans rfl; have p164 : 0 ≤ (a1 : Int) := of_decide_eq_true (by first | (with_reducible assumption) | assumption); have q164 : a1 < (l0_15.length : Int) := of_decide_eq_true (by first | (with_reducible assumption) | assumption); obtain ⟨ad164, A164_0, c164_0, e164, hx164_0, hl164_0, hi164_0⟩ := at_T143 HR0_15.out a1 p164 q164; cases e164; have hn164_0 : ad164.block ≠ gb163 := Nat.ne_of_lt (Nat.lt_of_lt_of_le (by have := World.block_lt_of_cell? _ _ hx164_0; first | rwa [add_block] at this | exact this) GW163.out); have hn164_1 : ad164.block ≠ gb163 := Nat.ne_of_lt (Nat.lt_of_lt_of_le (by have := World.block_lt_of_cell? _ _ hx164_0; first | rwa [add_block] at this | exact this) GW163.out); have hn164_2 : ad164.block ≠ gb163 := Nat.ne_of_lt (Nat.lt_of_lt_of_le (by have := World.block_lt_of_cell? _ _ hx164_0; first | rwa [add_block] at this | exact this) GW163.out); replace hx164_0 := (HB.out.cell (World.block_lt_of_cell? w _ hx164_0)).trans hx164_0; have HR164_0 := Aside0.mk hi164_0; have HC164_0 := Aside0.mk hl164_0; clear hi164_0 hl164_0; replace hx164_0 := (cell_far (p := ⟨gb163, 0, none⟩) (by first | (rw [add_block]; exact hn164_0) | (show (Addr.add _ _).block ≠ _; rw [add_block]; exact hn164_0) | exact hn164_0) (.int .i64 ((rd_T141 l0_16 a1).f0))).trans hx164_0; replace hx164_0 := (cell_far (p := ⟨gb163, 1, none⟩) (by first | (rw [add_block]; exact hn164_1) | (show (Addr.add _ _).block ≠ _; rw [add_block]; exact hn164_1) | exact hn164_1) (.int .i64 ((rd_T141 l0_16 a1).f1))).trans hx164_0; replace hx164_0 := (cell_far (p := ⟨gb163, 2, none⟩) (by first | (rw [add_block]; exact hn164_2) | (show (Addr.add _ _).block ≠ _; rw [add_block]; exact hn164_2) | exact hn164_2) (.bool ((rd_T141 l0_16 a1).f2))).trans hx164_0; clear hn164_0; clear hn164_1; clear hn164_2; replace p164 := eq_true p164; replace q164 := eq_true q164) | ((with_reducible refine gate_callee (f := 151) rfl ?_); refine goesL_ (some 25) rfl rfl Try.func151 (by kernel_rfl) rfl #[.slice A0_7 l0_7.length c0_7, .int .i64 ((rd_T141 l0_16 a1).f0)] rfl (by (try simp only [List.map_toArray, List.map_cons, List.map_nil]); first | done | rfl | (simp only [List.length_drop, List.length_take]; rfl)) ?_; (with_reducible refine (spec_RobotAt.calls k _ _ l0_7 ((rd_T141 l0_16 a1).f0) t165 _ ?side1 ?side2 A6.out).mono ?_); (case side1 => exact Kd.C_below HR0_7.out (by repeat (first | (with_reducible first | exact HB.out | apply wa | apply wN | apply wd | refine ws ?_ GE161.out | refine ws ?_ GE163.out) | exact HB.out))); (case side2 => exact HC0_7.out); rintro e w' ⟨rfl, ⟨nd, rfl⟩⟩; refine ⟨_, rfl, ?_⟩))
  (try simp only [Act.put, List.setIfInBounds_toArray, List.set_cons_zero, List.set_cons_succ])
  go_cut [61] (fun v61 wc => ∃ (kq : Nat) (x61_6 : Bool), v61 = .bool x61_6 ∧ Aside0 (spec_l21Job.j0 kq a1 ((rd_T143 l0_15 a1).f0) t165 x61_6 a0_0 a0_1 a0_2 a0_3 a0_4 a0_5 a0_6 l0_7 a0_8 a0_9 l0_10 a0_11 a0_12 a0_13 a0_14 l0_15 l0_16 l0_17 ((rd_T141 l0_16 a1).f0) ((rd_T141 l0_16 a1).f1) ((rd_T141 l0_16 a1).f2) = some r) ∧ Aside0 (kq ≤ k) ∧ Aside0 (wc.heap[gb161]? = some (.cells #[.int .i64 a0_0, .int .i64 a0_1, .string a0_2, .int .i64 a0_3, .int .i64 a0_4, .int .i64 a0_5, .int .i64 a0_6, (.slice A0_7 l0_7.length c0_7), .int .i64 a0_8, .int .i64 a0_9, (.slice A0_10 l0_10.length c0_10), .int .i64 a0_11, .bool a0_12, .int .i64 a0_13, .int .i64 a0_14, (.slice (some ad164) l0_15.length c0_15), (.slice (some ad162) l0_16.length c0_16), (.slice A0_17 l0_17.length c0_17)] 39 (0, 0))) ∧ Aside0 (wc.heap[gb163]? = some (.cells #[.int .i64 ((rd_T141 l0_16 a1).f0), .int .i64 ((rd_T141 l0_16 a1).f1), .bool ((rd_T141 l0_16 a1).f2)] 141 (0, 0))) ∧ Aside0 (Below w.heap.size w wc))
  case first =>
    have H := HC7.out
    clear HC7
    by_cases c14 : (wrap64 ((((rd_T143 l0_15 a1).f0).length : Int) - 1)) = a0_13
    rotate_left
    · rw [if_neg c14] at H
      have c14b0 : ((wrap64 ((((rd_T143 l0_15 a1).f0).length : Int) - 1)) == a0_13) = false := beq_eq_false_iff_ne.mpr c14
      have c14b1 : ((wrap64 ((((rd_T143 l0_15 a1).f0).length : Int) - 1)) != a0_13) = true := bne_iff_ne.mpr c14
      (first | rw [c14b0] | (simp only [i64_w, i32_w]; rw [c14b0]) | skip)
      have H' := Aside0.mk H
      clear H
      try go_wp2_with (first | ((with_reducible refine gate_dst (N := 57) rfl ?_); refine wpList_load_row (P := Try.prog) rfl _ _ rfl gb161 ?hx _ _ _ _ (by (with_reducible repeat first | apply bN | apply bd | apply ba); with_reducible exact BK161.out) Try.underlying39 rfl (by kernel_rfl) ?_; (case hx => first | rfl | (go_simp; done))))
      have n0_ : Aside0 ((((w10.setCell ⟨gb163, 0, none⟩ (.int .i64 ((rd_T141 l0_16 a1).f0))).setCell ⟨gb163, 1, none⟩ (.int .i64 ((rd_T141 l0_16 a1).f1))).setCell ⟨gb163, 2, none⟩ (.bool ((rd_T141 l0_16 a1).f2))).heap[gb161]? = some (.cells #[.int .i64 a0_0, .int .i64 a0_1, .string a0_2, .int .i64 a0_3, .int .i64 a0_4, .int .i64 a0_5, .int .i64 a0_6, .slice A0_7 l0_7.length c0_7, .int .i64 a0_8, .int .i64 a0_9, .slice A0_10 l0_10.length c0_10, .int .i64 a0_11, .bool a0_12, .int .i64 a0_13, .int .i64 a0_14, .slice (some ad164) l0_15.length c0_15, .slice (some ad162) l0_16.length c0_16, .slice A0_17 l0_17.length c0_17] 39 (0, 0))) := ⟨by (with_reducible repeat first | apply bN | apply bd | apply ba); refine blk_far ?_ NB161_163.out _; (with_reducible repeat first | apply bN | apply bd | apply ba); refine blk_far ?_ NB161_163.out _; (with_reducible repeat first | apply bN | apply bd | apply ba); refine blk_far ?_ NB161_163.out _; (with_reducible repeat first | apply bN | apply bd | apply ba); exact BK161.out⟩
      have n1_ : Aside0 ((((w10.setCell ⟨gb163, 0, none⟩ (.int .i64 ((rd_T141 l0_16 a1).f0))).setCell ⟨gb163, 1, none⟩ (.int .i64 ((rd_T141 l0_16 a1).f1))).setCell ⟨gb163, 2, none⟩ (.bool ((rd_T141 l0_16 a1).f2))).heap[gb163]? = some (.cells #[.int .i64 ((rd_T141 l0_16 a1).f0), .int .i64 ((rd_T141 l0_16 a1).f1), .bool ((rd_T141 l0_16 a1).f2)] 141 (0, 0))) := ⟨by (with_reducible repeat first | apply bN | apply bd | apply ba); refine blk_put (cs := #[.int .i64 ((rd_T141 l0_16 a1).f0), .int .i64 ((rd_T141 l0_16 a1).f1), .bool false]) ?_ 2 _ rfl; (with_reducible repeat first | apply bN | apply bd | apply ba); refine blk_put (cs := #[.int .i64 ((rd_T141 l0_16 a1).f0), .int .i64 0, .bool false]) ?_ 1 _ rfl; (with_reducible repeat first | apply bN | apply bd | apply ba); refine blk_put (cs := #[.int .i64 0, .int .i64 0, .bool false]) ?_ 0 _ rfl; (with_reducible repeat first | apply bN | apply bd | apply ba); exact BK163.out⟩
      have n2_ : Aside0 (Below w.heap.size w (((w10.setCell ⟨gb163, 0, none⟩ (.int .i64 ((rd_T141 l0_16 a1).f0))).setCell ⟨gb163, 1, none⟩ (.int .i64 ((rd_T141 l0_16 a1).f1))).setCell ⟨gb163, 2, none⟩ (.bool ((rd_T141 l0_16 a1).f2)))) := ⟨by repeat (first | (with_reducible first | exact HB.out | apply wa | apply wN | apply wd | refine ws ?_ GE161.out | refine ws ?_ GE163.out) | exact HB.out)⟩
      (try clear BK161)
      (try clear BK163)
      (try clear HB)
      (first | (rw [show World.drewN (((w10.setCell ⟨gb163, 0, none⟩ (.int .i64 ((rd_T141 l0_16 a1).f0))).setCell ⟨gb163, 1, none⟩ (.int .i64 ((rd_T141 l0_16 a1).f1))).setCell ⟨gb163, 2, none⟩ (.bool ((rd_T141 l0_16 a1).f2))) nd = World.drewN (((w10.setCell ⟨gb163, 0, none⟩ (.int .i64 ((rd_T141 l0_16 a1).f0))).setCell ⟨gb163, 1, none⟩ (.int .i64 ((rd_T141 l0_16 a1).f1))).setCell ⟨gb163, 2, none⟩ (.bool ((rd_T141 l0_16 a1).f2))) nd from rfl]; have p0_ := Aside0.mk (bN n0_.out nd); have p1_ := Aside0.mk (bN n1_.out nd); have p2_ := Aside0.mk (wN n2_.out nd); generalize World.drewN (((w10.setCell ⟨gb163, 0, none⟩ (.int .i64 ((rd_T141 l0_16 a1).f0))).setCell ⟨gb163, 1, none⟩ (.int .i64 ((rd_T141 l0_16 a1).f1))).setCell ⟨gb163, 2, none⟩ (.bool ((rd_T141 l0_16 a1).f2))) nd = w32 at p0_ p1_ p2_ ⊢; clear n0_ n1_ n2_; have n0_ := p0_; have n1_ := p1_; have n2_ := p2_; clear p0_ p1_ p2_) | generalize (((w10.setCell ⟨gb163, 0, none⟩ (.int .i64 ((rd_T141 l0_16 a1).f0))).setCell ⟨gb163, 1, none⟩ (.int .i64 ((rd_T141 l0_16 a1).f1))).setCell ⟨gb163, 2, none⟩ (.bool ((rd_T141 l0_16 a1).f2))) = w32 at n0_ n1_ n2_ ⊢)
      have BK161 := n0_
      have BK163 := n1_
      have HB := n2_
      clear n0_ n1_ n2_
      have n0_ := Aside0.mk (bd BK161.out)
      have n1_ := Aside0.mk (bd BK163.out)
      have n2_ := Aside0.mk (wd HB.out)
      clear BK161
      clear BK163
      clear HB
      have BK161 := n0_
      have BK163 := n1_
      have HB := n2_
      clear n0_ n1_ n2_
      refine start_ (n := 36) (S := fun w' => w'.cell? ⟨gb161, 13, none⟩ = some (.int .i64 a0_13)) (ds := []) #[false, false, false, false, false, false, false, false, false, false, false, false, false, false, false, false, false, false, false, false, false, false, false, false, false, false, false, false, false, false, false, false, false, false, false, false] (by kernel_rfl) rfl rfl ((bc BK161.out 13).trans rfl) (fun hHeld => ?_); refine with_tabW spec_l21Job.tab4 spec_l21Job.bits4 (fun HT_ HW_ => ?_)
      generalize w32.drew = w33 at BK161 BK163 HB hHeld ⊢
      refine plan_ [(0, 26, 0), (1, 27, 0), (2, 28, 0), (3, 29, 0), (4, 30, 0), (5, 31, 2), (6, 32, 0), (7, 33, 0), (8, 34, 1), (9, 35, 1), (10, 36, 0), (11, 37, 0), (12, 38, 1), (13, 39, 1), (14, 40, 1), (15, 41, 1), (16, 42, 1), (17, 43, 1), (18, 44, 0), (19, 45, 0), (20, 46, 1), (21, 47, 1), (22, 48, 1), (23, 49, 1), (24, 50, 1), (25, 51, 1), (26, 52, 1), (27, 53, 0), (28, 54, 0), (29, 55, 1), (30, 56, 1), (31, 57, 1), (32, 58, 1), (33, 59, 1), (34, 60, 1), (35, 61, 0)] ?_
      repeat (first | (refine p0_ (v := ?_) (a' := ?_) HT_.out (by rfl) (by rfl) (by rfl) (by kernel_rfl) (by exact fun _ _ _ h => h) (Or.inl ⟨by rfl, ?_⟩) ?_ ?_; rotate_left; (· (intro w'; go_simp; with_reducible rfl)); rotate_left; (· (simp only [Act.put, List.setIfInBounds_toArray, List.set_cons_zero, List.set_cons_succ, i64_w, i32_w]; rfl))) | (refine p1_ (a' := ?_) HT_.out (by rfl) (by rfl) (by rfl) (by kernel_rfl) (by exact fun _ _ _ h => h) (Or.inr ⟨by rfl, rfl⟩) ?_ ?_; rotate_left; (· (simp only [Act.put, List.setIfInBounds_toArray, List.set_cons_zero, List.set_cons_succ, i64_w, i32_w]; rfl))) | (refine p2_ (v := ?_) (a' := ?_) HT_.out HW_.out (by rfl) (by rfl) (by rfl) (by kernel_rfl) (by exact fun _ _ _ h => h) (Or.inl ⟨by rfl, ?_⟩) hHeld ?_ ?_; rotate_left; (· (intro w' s0; go_simp; with_reducible rfl)); rotate_left; (· (simp only [Act.put, List.setIfInBounds_toArray, List.set_cons_zero, List.set_cons_succ, i64_w, i32_w]; rfl))))
      with_reducible refine end_ ?_
      refine done_ (done_of HT_.out (by kernel_rfl)) ?_
      try go_wp2_with (first | ((with_reducible refine gate_dst (N := 57) rfl ?_); refine wpList_load_row (P := Try.prog) rfl _ _ rfl gb161 ?hx _ _ _ _ (by (with_reducible repeat first | apply bN | apply bd | apply ba); with_reducible exact BK161.out) Try.underlying39 rfl (by kernel_rfl) ?_; (case hx => first | rfl | (go_simp; done))))
      go_meet
      case rel => exact ⟨_, (true), (by first | rfl | (simp; done) | (simp [*]; done)), H', ⟨by first | omega | exact Nat.le_refl _⟩, ⟨by (with_reducible repeat first | apply bN | apply bd | apply ba); exact BK161.out⟩, ⟨by (with_reducible repeat first | apply bN | apply bd | apply ba); exact BK163.out⟩, ⟨by repeat (first | (with_reducible first | exact HB.out | apply wa | apply wN | apply wd | refine ws ?_ GE161.out | refine ws ?_ GE163.out) | exact HB.out)⟩⟩
    rw [if_pos c14] at H
    have c14b0 : ((wrap64 ((((rd_T143 l0_15 a1).f0).length : Int) - 1)) == a0_13) = true := beq_iff_eq.mpr c14
    have c14b1 : ((wrap64 ((((rd_T143 l0_15 a1).f0).length : Int) - 1)) != a0_13) = false := bne_eq_false_iff_eq.mpr c14
    clear c14
    (first | rw [c14b0] | (simp only [i64_w, i32_w]; rw [c14b0]) | skip)
    by_cases c15 : t165 < 0
    · rw [if_pos c15] at H
      have c15b0 : decide (t165 < 0) = true := decide_eq_true c15
      clear c15
      have H' := Aside0.mk H
      clear H
      try go_wp2_with (first | ((with_reducible refine gate_dst (N := 57) rfl ?_); refine wpList_load_row (P := Try.prog) rfl _ _ rfl gb161 ?hx _ _ _ _ (by (with_reducible repeat first | apply bN | apply bd | apply ba); with_reducible exact BK161.out) Try.underlying39 rfl (by kernel_rfl) ?_; (case hx => first | rfl | (go_simp; done))))
      have n0_ : Aside0 ((((w10.setCell ⟨gb163, 0, none⟩ (.int .i64 ((rd_T141 l0_16 a1).f0))).setCell ⟨gb163, 1, none⟩ (.int .i64 ((rd_T141 l0_16 a1).f1))).setCell ⟨gb163, 2, none⟩ (.bool ((rd_T141 l0_16 a1).f2))).heap[gb161]? = some (.cells #[.int .i64 a0_0, .int .i64 a0_1, .string a0_2, .int .i64 a0_3, .int .i64 a0_4, .int .i64 a0_5, .int .i64 a0_6, .slice A0_7 l0_7.length c0_7, .int .i64 a0_8, .int .i64 a0_9, .slice A0_10 l0_10.length c0_10, .int .i64 a0_11, .bool a0_12, .int .i64 a0_13, .int .i64 a0_14, .slice (some ad164) l0_15.length c0_15, .slice (some ad162) l0_16.length c0_16, .slice A0_17 l0_17.length c0_17] 39 (0, 0))) := ⟨by (with_reducible repeat first | apply bN | apply bd | apply ba); refine blk_far ?_ NB161_163.out _; (with_reducible repeat first | apply bN | apply bd | apply ba); refine blk_far ?_ NB161_163.out _; (with_reducible repeat first | apply bN | apply bd | apply ba); refine blk_far ?_ NB161_163.out _; (with_reducible repeat first | apply bN | apply bd | apply ba); exact BK161.out⟩
      have n1_ : Aside0 ((((w10.setCell ⟨gb163, 0, none⟩ (.int .i64 ((rd_T141 l0_16 a1).f0))).setCell ⟨gb163, 1, none⟩ (.int .i64 ((rd_T141 l0_16 a1).f1))).setCell ⟨gb163, 2, none⟩ (.bool ((rd_T141 l0_16 a1).f2))).heap[gb163]? = some (.cells #[.int .i64 ((rd_T141 l0_16 a1).f0), .int .i64 ((rd_T141 l0_16 a1).f1), .bool ((rd_T141 l0_16 a1).f2)] 141 (0, 0))) := ⟨by (with_reducible repeat first | apply bN | apply bd | apply ba); refine blk_put (cs := #[.int .i64 ((rd_T141 l0_16 a1).f0), .int .i64 ((rd_T141 l0_16 a1).f1), .bool false]) ?_ 2 _ rfl; (with_reducible repeat first | apply bN | apply bd | apply ba); refine blk_put (cs := #[.int .i64 ((rd_T141 l0_16 a1).f0), .int .i64 0, .bool false]) ?_ 1 _ rfl; (with_reducible repeat first | apply bN | apply bd | apply ba); refine blk_put (cs := #[.int .i64 0, .int .i64 0, .bool false]) ?_ 0 _ rfl; (with_reducible repeat first | apply bN | apply bd | apply ba); exact BK163.out⟩
      have n2_ : Aside0 (Below w.heap.size w (((w10.setCell ⟨gb163, 0, none⟩ (.int .i64 ((rd_T141 l0_16 a1).f0))).setCell ⟨gb163, 1, none⟩ (.int .i64 ((rd_T141 l0_16 a1).f1))).setCell ⟨gb163, 2, none⟩ (.bool ((rd_T141 l0_16 a1).f2)))) := ⟨by repeat (first | (with_reducible first | exact HB.out | apply wa | apply wN | apply wd | refine ws ?_ GE161.out | refine ws ?_ GE163.out) | exact HB.out)⟩
      (try clear BK161)
      (try clear BK163)
      (try clear HB)
      (first | (rw [show World.drewN (((w10.setCell ⟨gb163, 0, none⟩ (.int .i64 ((rd_T141 l0_16 a1).f0))).setCell ⟨gb163, 1, none⟩ (.int .i64 ((rd_T141 l0_16 a1).f1))).setCell ⟨gb163, 2, none⟩ (.bool ((rd_T141 l0_16 a1).f2))) nd = World.drewN (((w10.setCell ⟨gb163, 0, none⟩ (.int .i64 ((rd_T141 l0_16 a1).f0))).setCell ⟨gb163, 1, none⟩ (.int .i64 ((rd_T141 l0_16 a1).f1))).setCell ⟨gb163, 2, none⟩ (.bool ((rd_T141 l0_16 a1).f2))) nd from rfl]; have p0_ := Aside0.mk (bN n0_.out nd); have p1_ := Aside0.mk (bN n1_.out nd); have p2_ := Aside0.mk (wN n2_.out nd); generalize World.drewN (((w10.setCell ⟨gb163, 0, none⟩ (.int .i64 ((rd_T141 l0_16 a1).f0))).setCell ⟨gb163, 1, none⟩ (.int .i64 ((rd_T141 l0_16 a1).f1))).setCell ⟨gb163, 2, none⟩ (.bool ((rd_T141 l0_16 a1).f2))) nd = w16 at p0_ p1_ p2_ ⊢; clear n0_ n1_ n2_; have n0_ := p0_; have n1_ := p1_; have n2_ := p2_; clear p0_ p1_ p2_) | generalize (((w10.setCell ⟨gb163, 0, none⟩ (.int .i64 ((rd_T141 l0_16 a1).f0))).setCell ⟨gb163, 1, none⟩ (.int .i64 ((rd_T141 l0_16 a1).f1))).setCell ⟨gb163, 2, none⟩ (.bool ((rd_T141 l0_16 a1).f2))) = w16 at n0_ n1_ n2_ ⊢)
      have BK161 := n0_
      have BK163 := n1_
      have HB := n2_
      clear n0_ n1_ n2_
      have n0_ := Aside0.mk (bd BK161.out)
      have n1_ := Aside0.mk (bd BK163.out)
      have n2_ := Aside0.mk (wd HB.out)
      clear BK161
      clear BK163
      clear HB
      have BK161 := n0_
      have BK163 := n1_
      have HB := n2_
      clear n0_ n1_ n2_
      refine start_ (n := 36) (S := fun w' => w'.cell? ⟨gb161, 13, none⟩ = some (.int .i64 a0_13)) (ds := []) #[false, false, false, false, false, false, false, false, false, false, false, false, false, false, false, false, false, false, false, false, false, false, false, false, false, false, false, false, false, false, false, false, false, false, false, false] (by kernel_rfl) rfl rfl ((bc BK161.out 13).trans rfl) (fun hHeld => ?_); refine with_tabW spec_l21Job.tab4 spec_l21Job.bits4 (fun HT_ HW_ => ?_)
      generalize w16.drew = w17 at BK161 BK163 HB hHeld ⊢
      refine plan_ [(0, 26, 0), (1, 27, 0), (2, 28, 0), (3, 29, 0), (4, 30, 0), (5, 31, 2), (6, 32, 0), (7, 33, 0), (8, 34, 0), (9, 35, 0), (10, 36, 0), (11, 37, 0), (12, 38, 1), (13, 39, 1), (14, 40, 1), (15, 41, 1), (16, 42, 1), (17, 43, 1), (18, 44, 0), (19, 45, 0), (20, 46, 1), (21, 47, 1), (22, 48, 1), (23, 49, 1), (24, 50, 1), (25, 51, 1), (26, 52, 1), (27, 53, 0), (28, 54, 0), (29, 55, 1), (30, 56, 1), (31, 57, 1), (32, 58, 1), (33, 59, 1), (34, 60, 1), (35, 61, 0)] ?_
      repeat (first | (refine p0_ (v := ?_) (a' := ?_) HT_.out (by rfl) (by rfl) (by rfl) (by kernel_rfl) (by exact fun _ _ _ h => h) (Or.inl ⟨by rfl, ?_⟩) ?_ ?_; rotate_left; (· (intro w'; go_simp; with_reducible rfl)); rotate_left; (· (simp only [Act.put, List.setIfInBounds_toArray, List.set_cons_zero, List.set_cons_succ, i64_w, i32_w]; rfl))) | (refine p1_ (a' := ?_) HT_.out (by rfl) (by rfl) (by rfl) (by kernel_rfl) (by exact fun _ _ _ h => h) (Or.inr ⟨by rfl, rfl⟩) ?_ ?_; rotate_left; (· (simp only [Act.put, List.setIfInBounds_toArray, List.set_cons_zero, List.set_cons_succ, i64_w, i32_w]; rfl))) | (refine p2_ (v := ?_) (a' := ?_) HT_.out HW_.out (by rfl) (by rfl) (by rfl) (by kernel_rfl) (by exact fun _ _ _ h => h) (Or.inl ⟨by rfl, ?_⟩) hHeld ?_ ?_; rotate_left; (· (intro w' s0; go_simp; with_reducible rfl)); rotate_left; (· (simp only [Act.put, List.setIfInBounds_toArray, List.set_cons_zero, List.set_cons_succ, i64_w, i32_w]; rfl))))
      with_reducible refine end_ ?_
      refine done_ (done_of HT_.out (by kernel_rfl)) ?_
      try go_wp2_with (first | ((with_reducible refine gate_dst (N := 57) rfl ?_); refine wpList_load_row (P := Try.prog) rfl _ _ rfl gb161 ?hx _ _ _ _ (by (with_reducible repeat first | apply bN | apply bd | apply ba); with_reducible exact BK161.out) Try.underlying39 rfl (by kernel_rfl) ?_; (case hx => first | rfl | (go_simp; done))))
      go_meet
      case rel => exact ⟨_, (true), (by first | rfl | (simp; done) | (simp [*]; done)), H', ⟨by first | omega | exact Nat.le_refl _⟩, ⟨by (with_reducible repeat first | apply bN | apply bd | apply ba); exact BK161.out⟩, ⟨by (with_reducible repeat first | apply bN | apply bd | apply ba); exact BK163.out⟩, ⟨by repeat (first | (with_reducible first | exact HB.out | apply wa | apply wN | apply wd | refine ws ?_ GE161.out | refine ws ?_ GE163.out) | exact HB.out)⟩⟩
    rw [if_neg c15] at H
    have c15b0 : decide (t165 < 0) = false := decide_eq_false c15
    clear c15
    by_cases c18 : 0 ≤ t165
    rotate_left
    · rw [if_neg c18] at H
      exact absurd H (by simp)
    rw [if_pos c18] at H
    have c18b0 : decide (0 ≤ t165) = true := decide_eq_true c18
    clear c18
    by_cases c19 : t165 < (l0_7.length : Int)
    rotate_left
    · rw [if_neg c19] at H
      exact absurd H (by simp)
    rw [if_pos c19] at H
    have c19b0 : decide (t165 < (l0_7.length : Int)) = true := decide_eq_true c19
    clear c19
    obtain ⟨bq20, hbq20⟩ : ∃ b_ : Bool, b_ = ((rd_T84 l0_7 t165).f3) := ⟨_, rfl⟩
    replace H : (if bq20 = true then (spec_l21Job.j0 k a1 ((rd_T143 l0_15 a1).f0) t165 true a0_0 a0_1 a0_2 a0_3 a0_4 a0_5 a0_6 l0_7 a0_8 a0_9 l0_10 a0_11 a0_12 a0_13 a0_14 l0_15 l0_16 l0_17 ((rd_T141 l0_16 a1).f0) ((rd_T141 l0_16 a1).f1) ((rd_T141 l0_16 a1).f2)) else ((spec_l01In.f ((rd_T141 l0_16 a1).f1) 0 a0_13).bind fun t167 => (if t167 = true then ((spec_LayerOf.f k a0_0 a0_1 a0_2 a0_3 a0_4 a0_5 a0_6 l0_7 a0_8 a0_9 l0_10 a0_11 a0_12 a0_13 a0_14 l0_15 l0_16 l0_17).bind fun t168 => (spec_l21Job.j0 k a1 ((rd_T143 l0_15 a1).f0) t165 (decide (((rd_T141 l0_16 a1).f1) > (wrap64 (t168 + 1)))) a0_0 a0_1 a0_2 a0_3 a0_4 a0_5 a0_6 l0_7 a0_8 a0_9 l0_10 a0_11 a0_12 a0_13 a0_14 l0_15 l0_16 l0_17 ((rd_T141 l0_16 a1).f0) ((rd_T141 l0_16 a1).f1) ((rd_T141 l0_16 a1).f2))) else (spec_l21Job.j0 k a1 ((rd_T143 l0_15 a1).f0) t165 true a0_0 a0_1 a0_2 a0_3 a0_4 a0_5 a0_6 l0_7 a0_8 a0_9 l0_10 a0_11 a0_12 a0_13 a0_14 l0_15 l0_16 l0_17 ((rd_T141 l0_16 a1).f0) ((rd_T141 l0_16 a1).f1) ((rd_T141 l0_16 a1).f2))))) = some r := by rw [← hbq20] at H; exact H
    have Nbq20 := Aside0.mk hbq20
    clear hbq20
    by_cases c21 : bq20 = true
    · subst c21
      have H1 : (spec_l21Job.j0 k a1 ((rd_T143 l0_15 a1).f0) t165 true a0_0 a0_1 a0_2 a0_3 a0_4 a0_5 a0_6 l0_7 a0_8 a0_9 l0_10 a0_11 a0_12 a0_13 a0_14 l0_15 l0_16 l0_17 ((rd_T141 l0_16 a1).f0) ((rd_T141 l0_16 a1).f1) ((rd_T141 l0_16 a1).f2)) = some r := by rw [if_pos rfl] at H; exact H
      clear H
      have H := H1
      clear H1
      have H' := Aside0.mk H
      clear H
      try go_wp2_with (first | ((with_reducible refine gate_dst (N := 57) rfl ?_); refine wpList_load_row (P := Try.prog) rfl _ _ rfl gb161 ?hx _ _ _ _ (by (with_reducible repeat first | apply bN | apply bd | apply ba); with_reducible exact BK161.out) Try.underlying39 rfl (by kernel_rfl) ?_; (case hx => first | rfl | (go_simp; done))))
      have n0_ : Aside0 ((((w10.setCell ⟨gb163, 0, none⟩ (.int .i64 ((rd_T141 l0_16 a1).f0))).setCell ⟨gb163, 1, none⟩ (.int .i64 ((rd_T141 l0_16 a1).f1))).setCell ⟨gb163, 2, none⟩ (.bool ((rd_T141 l0_16 a1).f2))).heap[gb161]? = some (.cells #[.int .i64 a0_0, .int .i64 a0_1, .string a0_2, .int .i64 a0_3, .int .i64 a0_4, .int .i64 a0_5, .int .i64 a0_6, .slice A0_7 l0_7.length c0_7, .int .i64 a0_8, .int .i64 a0_9, .slice A0_10 l0_10.length c0_10, .int .i64 a0_11, .bool a0_12, .int .i64 a0_13, .int .i64 a0_14, .slice (some ad164) l0_15.length c0_15, .slice (some ad162) l0_16.length c0_16, .slice A0_17 l0_17.length c0_17] 39 (0, 0))) := ⟨by (with_reducible repeat first | apply bN | apply bd | apply ba); refine blk_far ?_ NB161_163.out _; (with_reducible repeat first | apply bN | apply bd | apply ba); refine blk_far ?_ NB161_163.out _; (with_reducible repeat first | apply bN | apply bd | apply ba); refine blk_far ?_ NB161_163.out _; (with_reducible repeat first | apply bN | apply bd | apply ba); exact BK161.out⟩
      have n1_ : Aside0 ((((w10.setCell ⟨gb163, 0, none⟩ (.int .i64 ((rd_T141 l0_16 a1).f0))).setCell ⟨gb163, 1, none⟩ (.int .i64 ((rd_T141 l0_16 a1).f1))).setCell ⟨gb163, 2, none⟩ (.bool ((rd_T141 l0_16 a1).f2))).heap[gb163]? = some (.cells #[.int .i64 ((rd_T141 l0_16 a1).f0), .int .i64 ((rd_T141 l0_16 a1).f1), .bool ((rd_T141 l0_16 a1).f2)] 141 (0, 0))) := ⟨by (with_reducible repeat first | apply bN | apply bd | apply ba); refine blk_put (cs := #[.int .i64 ((rd_T141 l0_16 a1).f0), .int .i64 ((rd_T141 l0_16 a1).f1), .bool false]) ?_ 2 _ rfl; (with_reducible repeat first | apply bN | apply bd | apply ba); refine blk_put (cs := #[.int .i64 ((rd_T141 l0_16 a1).f0), .int .i64 0, .bool false]) ?_ 1 _ rfl; (with_reducible repeat first | apply bN | apply bd | apply ba); refine blk_put (cs := #[.int .i64 0, .int .i64 0, .bool false]) ?_ 0 _ rfl; (with_reducible repeat first | apply bN | apply bd | apply ba); exact BK163.out⟩
      have n2_ : Aside0 (Below w.heap.size w (((w10.setCell ⟨gb163, 0, none⟩ (.int .i64 ((rd_T141 l0_16 a1).f0))).setCell ⟨gb163, 1, none⟩ (.int .i64 ((rd_T141 l0_16 a1).f1))).setCell ⟨gb163, 2, none⟩ (.bool ((rd_T141 l0_16 a1).f2)))) := ⟨by repeat (first | (with_reducible first | exact HB.out | apply wa | apply wN | apply wd | refine ws ?_ GE161.out | refine ws ?_ GE163.out) | exact HB.out)⟩
      (try clear BK161)
      (try clear BK163)
      (try clear HB)
      (first | (rw [show World.drewN (((w10.setCell ⟨gb163, 0, none⟩ (.int .i64 ((rd_T141 l0_16 a1).f0))).setCell ⟨gb163, 1, none⟩ (.int .i64 ((rd_T141 l0_16 a1).f1))).setCell ⟨gb163, 2, none⟩ (.bool ((rd_T141 l0_16 a1).f2))) nd = World.drewN (((w10.setCell ⟨gb163, 0, none⟩ (.int .i64 ((rd_T141 l0_16 a1).f0))).setCell ⟨gb163, 1, none⟩ (.int .i64 ((rd_T141 l0_16 a1).f1))).setCell ⟨gb163, 2, none⟩ (.bool ((rd_T141 l0_16 a1).f2))) nd from rfl]; have p0_ := Aside0.mk (bN n0_.out nd); have p1_ := Aside0.mk (bN n1_.out nd); have p2_ := Aside0.mk (wN n2_.out nd); generalize World.drewN (((w10.setCell ⟨gb163, 0, none⟩ (.int .i64 ((rd_T141 l0_16 a1).f0))).setCell ⟨gb163, 1, none⟩ (.int .i64 ((rd_T141 l0_16 a1).f1))).setCell ⟨gb163, 2, none⟩ (.bool ((rd_T141 l0_16 a1).f2))) nd = w22 at p0_ p1_ p2_ ⊢; clear n0_ n1_ n2_; have n0_ := p0_; have n1_ := p1_; have n2_ := p2_; clear p0_ p1_ p2_) | generalize (((w10.setCell ⟨gb163, 0, none⟩ (.int .i64 ((rd_T141 l0_16 a1).f0))).setCell ⟨gb163, 1, none⟩ (.int .i64 ((rd_T141 l0_16 a1).f1))).setCell ⟨gb163, 2, none⟩ (.bool ((rd_T141 l0_16 a1).f2))) = w22 at n0_ n1_ n2_ ⊢)
      have BK161 := n0_
      have BK163 := n1_
      have HB := n2_
      clear n0_ n1_ n2_
      have n0_ := Aside0.mk (bd BK161.out)
      have n1_ := Aside0.mk (bd BK163.out)
      have n2_ := Aside0.mk (wd HB.out)
      clear BK161
      clear BK163
      clear HB
      have BK161 := n0_
      have BK163 := n1_
      have HB := n2_
      clear n0_ n1_ n2_
      have p166 : 0 ≤ (t165 : Int) := of_decide_eq_true (by first | (with_reducible assumption) | assumption)
      have q166 : t165 < (l0_7.length : Int) := of_decide_eq_true (by first | (with_reducible assumption) | assumption)
      obtain ⟨ad166, e166, hx166_0, hx166_1, hx166_2, hx166_3⟩ := at_T84 HR0_7.out t165 p166 q166
      have hw166_3 := hx166_3
      have hw166_2 := hx166_2
      have hw166_1 := hx166_1
      have hw166_0 := hx166_0
      (try rw [← Nbq20.out] at hx166_3) <;> (try rw [← Nbq20.out] at hw166_3)
      cases e166
      replace hx166_0 := (HB.out.cell (World.block_lt_of_cell? w _ hx166_0)).trans hx166_0
      replace hx166_1 := (HB.out.cell (World.block_lt_of_cell? w _ hx166_1)).trans hx166_1
      replace hx166_2 := (HB.out.cell (World.block_lt_of_cell? w _ hx166_2)).trans hx166_2
      replace hx166_3 := (HB.out.cell (World.block_lt_of_cell? w _ hx166_3)).trans hx166_3
      replace p166 := eq_true p166
      replace q166 := eq_true q166
      refine start_ (n := 36) (S := fun w' => w'.cell? ⟨gb161, 7, none⟩ = some (.slice (some ad166) l0_7.length c0_7) ∧ w'.cell? ⟨gb161, 13, none⟩ = some (.int .i64 a0_13) ∧ w'.cell? (ad166.add ((t165).toNat * 4)) = some (.int .i64 ((rd_T84 l0_7 t165).f0)) ∧ w'.cell? ⟨(ad166.add ((t165).toNat * 4)).block, (ad166.add ((t165).toNat * 4)).off + 1, none⟩ = some (.int .i64 ((rd_T84 l0_7 t165).f1)) ∧ w'.cell? ⟨(ad166.add ((t165).toNat * 4)).block, (ad166.add ((t165).toNat * 4)).off + 2, none⟩ = some (.int .i64 ((rd_T84 l0_7 t165).f2)) ∧ w'.cell? ⟨(ad166.add ((t165).toNat * 4)).block, (ad166.add ((t165).toNat * 4)).off + 3, none⟩ = some (.bool true)) (ds := []) #[false, false, false, false, false, false, false, false, false, false, false, false, false, false, false, false, false, false, false, false, false, false, false, false, false, false, false, false, false, false, false, false, false, false, false, false] (by kernel_rfl) rfl rfl ⟨(bc BK161.out 7).trans rfl, (bc BK161.out 13).trans rfl, ((HB.out.cell (World.block_lt_of_cell? w _ hw166_0)).trans hw166_0), ((HB.out.cell (World.block_lt_of_cell? w _ hw166_1)).trans hw166_1), ((HB.out.cell (World.block_lt_of_cell? w _ hw166_2)).trans hw166_2), ((HB.out.cell (World.block_lt_of_cell? w _ hw166_3)).trans hw166_3)⟩ (fun hHeld => ?_); refine with_tabW spec_l21Job.tab4 spec_l21Job.bits4 (fun HT_ HW_ => ?_)
      generalize w22.drew = w23 at BK161 BK163 HB hx166_0 hx166_1 hx166_2 hx166_3 hHeld ⊢
      refine plan_ [(0, 26, 0), (1, 27, 0), (2, 28, 0), (3, 29, 0), (4, 30, 0), (5, 31, 2), (6, 32, 0), (7, 33, 0), (8, 34, 0), (9, 35, 0), (10, 36, 0), (11, 37, 0), (12, 38, 0), (14, 40, 0), (13, 39, 2), (15, 41, 0), (16, 42, 0), (17, 43, 2), (18, 44, 0), (19, 45, 0), (20, 46, 1), (21, 47, 1), (22, 48, 1), (23, 49, 1), (24, 50, 1), (25, 51, 1), (26, 52, 1), (27, 53, 0), (28, 54, 0), (29, 55, 1), (30, 56, 1), (31, 57, 1), (32, 58, 1), (33, 59, 1), (34, 60, 1), (35, 61, 0)] ?_
      repeat (first | (refine p0_ (v := ?_) (a' := ?_) HT_.out (by rfl) (by rfl) (by rfl) (by kernel_rfl) (by exact fun _ _ _ h => h) (Or.inl ⟨by rfl, ?_⟩) ?_ ?_; rotate_left; (· (intro w'; go_simp; with_reducible rfl)); rotate_left; (· (simp only [Act.put, List.setIfInBounds_toArray, List.set_cons_zero, List.set_cons_succ, i64_w, i32_w]; rfl))) | (refine p1_ (a' := ?_) HT_.out (by rfl) (by rfl) (by rfl) (by kernel_rfl) (by exact fun _ _ _ h => h) (Or.inr ⟨by rfl, rfl⟩) ?_ ?_; rotate_left; (· (simp only [Act.put, List.setIfInBounds_toArray, List.set_cons_zero, List.set_cons_succ, i64_w, i32_w]; rfl))) | (refine p2_ (v := ?_) (a' := ?_) HT_.out HW_.out (by rfl) (by rfl) (by rfl) (by kernel_rfl) (by exact fun _ _ _ h => h) (Or.inl ⟨by rfl, ?_⟩) hHeld ?_ ?_; rotate_left; (· (rintro w' ⟨s0, s1, s2, s3, s4, s5⟩; go_simp; with_reducible rfl)); rotate_left; (· (simp only [Act.put, List.setIfInBounds_toArray, List.set_cons_zero, List.set_cons_succ, i64_w, i32_w]; rfl))))
      with_reducible refine end_ ?_
      refine done_ (done_of HT_.out (by kernel_rfl)) ?_
      try go_wp2_with (first | ((with_reducible refine gate_dst (N := 57) rfl ?_); refine wpList_load_row (P := Try.prog) rfl _ _ rfl gb161 ?hx _ _ _ _ (by (with_reducible repeat first | apply bN | apply bd | apply ba); with_reducible exact BK161.out) Try.underlying39 rfl (by kernel_rfl) ?_; (case hx => first | rfl | (go_simp; done))))
      go_meet
      case rel => exact ⟨_, (true), (by first | rfl | (simp; done) | (simp [*]; done)), H', ⟨by first | omega | exact Nat.le_refl _⟩, ⟨by (with_reducible repeat first | apply bN | apply bd | apply ba); exact BK161.out⟩, ⟨by (with_reducible repeat first | apply bN | apply bd | apply ba); exact BK163.out⟩, ⟨by repeat (first | (with_reducible first | exact HB.out | apply wa | apply wN | apply wd | refine ws ?_ GE161.out | refine ws ?_ GE163.out) | exact HB.out)⟩⟩
    replace c21 := Bool.eq_false_iff.mpr c21
    subst c21
    have H1 : ((spec_l01In.f ((rd_T141 l0_16 a1).f1) 0 a0_13).bind fun t167 => (if t167 = true then ((spec_LayerOf.f k a0_0 a0_1 a0_2 a0_3 a0_4 a0_5 a0_6 l0_7 a0_8 a0_9 l0_10 a0_11 a0_12 a0_13 a0_14 l0_15 l0_16 l0_17).bind fun t168 => (spec_l21Job.j0 k a1 ((rd_T143 l0_15 a1).f0) t165 (decide (((rd_T141 l0_16 a1).f1) > (wrap64 (t168 + 1)))) a0_0 a0_1 a0_2 a0_3 a0_4 a0_5 a0_6 l0_7 a0_8 a0_9 l0_10 a0_11 a0_12 a0_13 a0_14 l0_15 l0_16 l0_17 ((rd_T141 l0_16 a1).f0) ((rd_T141 l0_16 a1).f1) ((rd_T141 l0_16 a1).f2))) else (spec_l21Job.j0 k a1 ((rd_T143 l0_15 a1).f0) t165 true a0_0 a0_1 a0_2 a0_3 a0_4 a0_5 a0_6 l0_7 a0_8 a0_9 l0_10 a0_11 a0_12 a0_13 a0_14 l0_15 l0_16 l0_17 ((rd_T141 l0_16 a1).f0) ((rd_T141 l0_16 a1).f1) ((rd_T141 l0_16 a1).f2)))) = some r := by rw [if_neg (show ¬ (false = true) by decide)] at H; exact H
    clear H
    have H := H1
    clear H1
    replace H := Option.bind_eq_some_iff.mp H
    obtain ⟨t167, A240, H⟩ := H
    replace H : (if t167 = true then ((spec_LayerOf.f k a0_0 a0_1 a0_2 a0_3 a0_4 a0_5 a0_6 l0_7 a0_8 a0_9 l0_10 a0_11 a0_12 a0_13 a0_14 l0_15 l0_16 l0_17).bind fun t168 => (spec_l21Job.j0 k a1 ((rd_T143 l0_15 a1).f0) t165 (decide (((rd_T141 l0_16 a1).f1) > (wrap64 (t168 + 1)))) a0_0 a0_1 a0_2 a0_3 a0_4 a0_5 a0_6 l0_7 a0_8 a0_9 l0_10 a0_11 a0_12 a0_13 a0_14 l0_15 l0_16 l0_17 ((rd_T141 l0_16 a1).f0) ((rd_T141 l0_16 a1).f1) ((rd_T141 l0_16 a1).f2))) else (spec_l21Job.j0 k a1 ((rd_T143 l0_15 a1).f0) t165 true a0_0 a0_1 a0_2 a0_3 a0_4 a0_5 a0_6 l0_7 a0_8 a0_9 l0_10 a0_11 a0_12 a0_13 a0_14 l0_15 l0_16 l0_17 ((rd_T141 l0_16 a1).f0) ((rd_T141 l0_16 a1).f1) ((rd_T141 l0_16 a1).f2))) = some r := H
    have A24 := Aside0.mk A240
    clear A240
    by_cases c25 : t167 = true
    rotate_left
    · replace c25 := Bool.eq_false_iff.mpr c25
      subst c25
      have H1 : (spec_l21Job.j0 k a1 ((rd_T143 l0_15 a1).f0) t165 true a0_0 a0_1 a0_2 a0_3 a0_4 a0_5 a0_6 l0_7 a0_8 a0_9 l0_10 a0_11 a0_12 a0_13 a0_14 l0_15 l0_16 l0_17 ((rd_T141 l0_16 a1).f0) ((rd_T141 l0_16 a1).f1) ((rd_T141 l0_16 a1).f2)) = some r := by rw [if_neg (show ¬ (false = true) by decide)] at H; exact H
      clear H
      have H := H1
      clear H1
      have H' := Aside0.mk H
      clear H
      try go_wp2_with (first | ((with_reducible refine gate_dst (N := 57) rfl ?_); refine wpList_load_row (P := Try.prog) rfl _ _ rfl gb161 ?hx _ _ _ _ (by (with_reducible repeat first | apply bN | apply bd | apply ba); with_reducible exact BK161.out) Try.underlying39 rfl (by kernel_rfl) ?_; (case hx => first | rfl | (go_simp; done))))
      have n0_ : Aside0 ((((w10.setCell ⟨gb163, 0, none⟩ (.int .i64 ((rd_T141 l0_16 a1).f0))).setCell ⟨gb163, 1, none⟩ (.int .i64 ((rd_T141 l0_16 a1).f1))).setCell ⟨gb163, 2, none⟩ (.bool ((rd_T141 l0_16 a1).f2))).heap[gb161]? = some (.cells #[.int .i64 a0_0, .int .i64 a0_1, .string a0_2, .int .i64 a0_3, .int .i64 a0_4, .int .i64 a0_5, .int .i64 a0_6, .slice A0_7 l0_7.length c0_7, .int .i64 a0_8, .int .i64 a0_9, .slice A0_10 l0_10.length c0_10, .int .i64 a0_11, .bool a0_12, .int .i64 a0_13, .int .i64 a0_14, .slice (some ad164) l0_15.length c0_15, .slice (some ad162) l0_16.length c0_16, .slice A0_17 l0_17.length c0_17] 39 (0, 0))) := ⟨by (with_reducible repeat first | apply bN | apply bd | apply ba); refine blk_far ?_ NB161_163.out _; (with_reducible repeat first | apply bN | apply bd | apply ba); refine blk_far ?_ NB161_163.out _; (with_reducible repeat first | apply bN | apply bd | apply ba); refine blk_far ?_ NB161_163.out _; (with_reducible repeat first | apply bN | apply bd | apply ba); exact BK161.out⟩
      have n1_ : Aside0 ((((w10.setCell ⟨gb163, 0, none⟩ (.int .i64 ((rd_T141 l0_16 a1).f0))).setCell ⟨gb163, 1, none⟩ (.int .i64 ((rd_T141 l0_16 a1).f1))).setCell ⟨gb163, 2, none⟩ (.bool ((rd_T141 l0_16 a1).f2))).heap[gb163]? = some (.cells #[.int .i64 ((rd_T141 l0_16 a1).f0), .int .i64 ((rd_T141 l0_16 a1).f1), .bool ((rd_T141 l0_16 a1).f2)] 141 (0, 0))) := ⟨by (with_reducible repeat first | apply bN | apply bd | apply ba); refine blk_put (cs := #[.int .i64 ((rd_T141 l0_16 a1).f0), .int .i64 ((rd_T141 l0_16 a1).f1), .bool false]) ?_ 2 _ rfl; (with_reducible repeat first | apply bN | apply bd | apply ba); refine blk_put (cs := #[.int .i64 ((rd_T141 l0_16 a1).f0), .int .i64 0, .bool false]) ?_ 1 _ rfl; (with_reducible repeat first | apply bN | apply bd | apply ba); refine blk_put (cs := #[.int .i64 0, .int .i64 0, .bool false]) ?_ 0 _ rfl; (with_reducible repeat first | apply bN | apply bd | apply ba); exact BK163.out⟩
      have n2_ : Aside0 (Below w.heap.size w (((w10.setCell ⟨gb163, 0, none⟩ (.int .i64 ((rd_T141 l0_16 a1).f0))).setCell ⟨gb163, 1, none⟩ (.int .i64 ((rd_T141 l0_16 a1).f1))).setCell ⟨gb163, 2, none⟩ (.bool ((rd_T141 l0_16 a1).f2)))) := ⟨by repeat (first | (with_reducible first | exact HB.out | apply wa | apply wN | apply wd | refine ws ?_ GE161.out | refine ws ?_ GE163.out) | exact HB.out)⟩
      (try clear BK161)
      (try clear BK163)
      (try clear HB)
      (first | (rw [show World.drewN (((w10.setCell ⟨gb163, 0, none⟩ (.int .i64 ((rd_T141 l0_16 a1).f0))).setCell ⟨gb163, 1, none⟩ (.int .i64 ((rd_T141 l0_16 a1).f1))).setCell ⟨gb163, 2, none⟩ (.bool ((rd_T141 l0_16 a1).f2))) nd = World.drewN (((w10.setCell ⟨gb163, 0, none⟩ (.int .i64 ((rd_T141 l0_16 a1).f0))).setCell ⟨gb163, 1, none⟩ (.int .i64 ((rd_T141 l0_16 a1).f1))).setCell ⟨gb163, 2, none⟩ (.bool ((rd_T141 l0_16 a1).f2))) nd from rfl]; have p0_ := Aside0.mk (bN n0_.out nd); have p1_ := Aside0.mk (bN n1_.out nd); have p2_ := Aside0.mk (wN n2_.out nd); generalize World.drewN (((w10.setCell ⟨gb163, 0, none⟩ (.int .i64 ((rd_T141 l0_16 a1).f0))).setCell ⟨gb163, 1, none⟩ (.int .i64 ((rd_T141 l0_16 a1).f1))).setCell ⟨gb163, 2, none⟩ (.bool ((rd_T141 l0_16 a1).f2))) nd = w30 at p0_ p1_ p2_ ⊢; clear n0_ n1_ n2_; have n0_ := p0_; have n1_ := p1_; have n2_ := p2_; clear p0_ p1_ p2_) | generalize (((w10.setCell ⟨gb163, 0, none⟩ (.int .i64 ((rd_T141 l0_16 a1).f0))).setCell ⟨gb163, 1, none⟩ (.int .i64 ((rd_T141 l0_16 a1).f1))).setCell ⟨gb163, 2, none⟩ (.bool ((rd_T141 l0_16 a1).f2))) = w30 at n0_ n1_ n2_ ⊢)
      have BK161 := n0_
      have BK163 := n1_
      have HB := n2_
      clear n0_ n1_ n2_
      have n0_ := Aside0.mk (bd BK161.out)
      have n1_ := Aside0.mk (bd BK163.out)
      have n2_ := Aside0.mk (wd HB.out)
      clear BK161
      clear BK163
      clear HB
      have BK161 := n0_
      have BK163 := n1_
      have HB := n2_
      clear n0_ n1_ n2_
      have p166 : 0 ≤ (t165 : Int) := of_decide_eq_true (by first | (with_reducible assumption) | assumption)
      have q166 : t165 < (l0_7.length : Int) := of_decide_eq_true (by first | (with_reducible assumption) | assumption)
      obtain ⟨ad166, e166, hx166_0, hx166_1, hx166_2, hx166_3⟩ := at_T84 HR0_7.out t165 p166 q166
      have hw166_3 := hx166_3
      have hw166_2 := hx166_2
      have hw166_1 := hx166_1
      have hw166_0 := hx166_0
      (try rw [← Nbq20.out] at hx166_3) <;> (try rw [← Nbq20.out] at hw166_3)
      cases e166
      replace hx166_0 := (HB.out.cell (World.block_lt_of_cell? w _ hx166_0)).trans hx166_0
      replace hx166_1 := (HB.out.cell (World.block_lt_of_cell? w _ hx166_1)).trans hx166_1
      replace hx166_2 := (HB.out.cell (World.block_lt_of_cell? w _ hx166_2)).trans hx166_2
      replace hx166_3 := (HB.out.cell (World.block_lt_of_cell? w _ hx166_3)).trans hx166_3
      replace p166 := eq_true p166
      replace q166 := eq_true q166
      refine start_ (n := 36) (S := fun w' => w'.cell? ⟨gb161, 7, none⟩ = some (.slice (some ad166) l0_7.length c0_7) ∧ w'.cell? ⟨gb161, 13, none⟩ = some (.int .i64 a0_13) ∧ w'.cell? ⟨gb163, 0, none⟩ = some (.int .i64 ((rd_T141 l0_16 a1).f0)) ∧ w'.cell? ⟨gb163, 1, none⟩ = some (.int .i64 ((rd_T141 l0_16 a1).f1)) ∧ w'.cell? ⟨gb163, 2, none⟩ = some (.bool ((rd_T141 l0_16 a1).f2)) ∧ w'.cell? (ad166.add ((t165).toNat * 4)) = some (.int .i64 ((rd_T84 l0_7 t165).f0)) ∧ w'.cell? ⟨(ad166.add ((t165).toNat * 4)).block, (ad166.add ((t165).toNat * 4)).off + 1, none⟩ = some (.int .i64 ((rd_T84 l0_7 t165).f1)) ∧ w'.cell? ⟨(ad166.add ((t165).toNat * 4)).block, (ad166.add ((t165).toNat * 4)).off + 2, none⟩ = some (.int .i64 ((rd_T84 l0_7 t165).f2)) ∧ w'.cell? ⟨(ad166.add ((t165).toNat * 4)).block, (ad166.add ((t165).toNat * 4)).off + 3, none⟩ = some (.bool false)) (ds := []) #[false, false, false, false, false, false, false, false, false, false, false, false, false, false, false, false, false, false, false, false, false, false, false, false, false, false, false, false, false, false, false, false, false, false, false, false] (by kernel_rfl) rfl rfl ⟨(bc BK161.out 7).trans rfl, (bc BK161.out 13).trans rfl, (bc BK163.out 0).trans rfl, (bc BK163.out 1).trans rfl, (bc BK163.out 2).trans rfl, ((HB.out.cell (World.block_lt_of_cell? w _ hw166_0)).trans hw166_0), ((HB.out.cell (World.block_lt_of_cell? w _ hw166_1)).trans hw166_1), ((HB.out.cell (World.block_lt_of_cell? w _ hw166_2)).trans hw166_2), ((HB.out.cell (World.block_lt_of_cell? w _ hw166_3)).trans hw166_3)⟩ (fun hHeld => ?_); refine with_tabW spec_l21Job.tab4 spec_l21Job.bits4 (fun HT_ HW_ => ?_)
      generalize w30.drew = w31 at BK161 BK163 HB hx166_0 hx166_1 hx166_2 hx166_3 hHeld ⊢
      refine plan_ [(0, 26, 0), (1, 27, 0), (2, 28, 0), (3, 29, 0), (4, 30, 0), (5, 31, 2), (6, 32, 0), (7, 33, 0), (8, 34, 0), (9, 35, 0), (10, 36, 0), (11, 37, 0), (12, 38, 0), (14, 40, 0), (13, 39, 2), (15, 41, 0), (16, 42, 0), (17, 43, 2), (18, 44, 0), (19, 45, 0), (20, 46, 0), (22, 48, 0), (23, 49, 0), (21, 47, 2), (24, 50, 2)] ?_
      repeat (first | (refine p0_ (v := ?_) (a' := ?_) HT_.out (by rfl) (by rfl) (by rfl) (by kernel_rfl) (by exact fun _ _ _ h => h) (Or.inl ⟨by rfl, ?_⟩) ?_ ?_; rotate_left; (· (intro w'; go_simp; with_reducible rfl)); rotate_left; (· (simp only [Act.put, List.setIfInBounds_toArray, List.set_cons_zero, List.set_cons_succ, i64_w, i32_w]; rfl))) | (refine p2_ (v := ?_) (a' := ?_) HT_.out HW_.out (by rfl) (by rfl) (by rfl) (by kernel_rfl) (by exact fun _ _ _ h => h) (Or.inl ⟨by rfl, ?_⟩) hHeld ?_ ?_; rotate_left; (· (rintro w' ⟨s0, s1, s2, s3, s4, s5, s6, s7, s8⟩; go_simp; with_reducible rfl)); rotate_left; (· (simp only [Act.put, List.setIfInBounds_toArray, List.set_cons_zero, List.set_cons_succ, i64_w, i32_w]; rfl))))
      with_reducible refine end_ ?_
      refine one_ (i := 25) (N := some 51) #[true, true, true, true, true, true, true, true, true, true, true, true, true, true, true, true, true, true, true, true, true, true, true, true, true, true, false, false, false, false, false, false, false, false, false, false] rfl rfl (one_of HT_.out (by kernel_rfl)) (by decide) (fun K hK => ?_)
      refine goes_ Try.func107 (by kernel_rfl) rfl #[.int .i64 ((rd_T141 l0_16 a1).f1), .int .i64 0, .int .i64 a0_13] (by rfl) rfl rfl (by (try simp only [List.map_toArray, List.map_cons, List.map_nil]); first | done | rfl | (simp only [List.length_drop, List.length_take]; rfl)) ?_
      with_reducible refine (spec_l01In.calls ((rd_T141 l0_16 a1).f1) 0 a0_13 false _ A24.out).mono ?_
      rintro e w' ⟨rfl, ⟨nd, rfl⟩⟩
      refine ⟨_, rfl, ?_⟩
      refine hK.out _ _ ⟨(bc BK161.out 7).trans rfl, (bc BK161.out 13).trans rfl, (bc BK163.out 0).trans rfl, (bc BK163.out 1).trans rfl, (bc BK163.out 2).trans rfl, ((HB.out.cell (World.block_lt_of_cell? w _ hw166_0)).trans hw166_0), ((HB.out.cell (World.block_lt_of_cell? w _ hw166_1)).trans hw166_1), ((HB.out.cell (World.block_lt_of_cell? w _ hw166_2)).trans hw166_2), ((HB.out.cell (World.block_lt_of_cell? w _ hw166_3)).trans hw166_3)⟩ (fun hHeld => ?_)
      clear hK K
      refine norm_ (a' := ?_) ?_ ?_
      rotate_left
      · show Act.put _ (some 51) _ = _
        simp only [Act.put, List.setIfInBounds_toArray, List.set_cons_zero, List.set_cons_succ, i64_w, i32_w]
        rfl
      refine plan_ [(26, 52, 0), (27, 53, 0), (28, 54, 0), (29, 55, 1), (30, 56, 1), (31, 57, 1), (32, 58, 1), (33, 59, 1), (34, 60, 1), (35, 61, 0)] ?_
      repeat (first | (refine p0_ (v := ?_) (a' := ?_) HT_.out (by rfl) (by rfl) (by rfl) (by kernel_rfl) (by exact fun _ _ _ h => h) (Or.inl ⟨by rfl, ?_⟩) ?_ ?_; rotate_left; (· (intro w'; go_simp; with_reducible rfl)); rotate_left; (· (simp only [Act.put, List.setIfInBounds_toArray, List.set_cons_zero, List.set_cons_succ, i64_w, i32_w]; rfl))) | (refine p1_ (a' := ?_) HT_.out (by rfl) (by rfl) (by rfl) (by kernel_rfl) (by exact fun _ _ _ h => h) (Or.inr ⟨by rfl, rfl⟩) ?_ ?_; rotate_left; (· (simp only [Act.put, List.setIfInBounds_toArray, List.set_cons_zero, List.set_cons_succ, i64_w, i32_w]; rfl))))
      with_reducible refine end_ ?_
      refine done_ (done_of HT_.out (by kernel_rfl)) ?_
      try go_wp2_with (first | ((with_reducible refine gate_dst (N := 57) rfl ?_); refine wpList_load_row (P := Try.prog) rfl _ _ rfl gb161 ?hx _ _ _ _ (by (with_reducible repeat first | apply bN | apply bd | apply ba); with_reducible exact BK161.out) Try.underlying39 rfl (by kernel_rfl) ?_; (case hx => first | rfl | (go_simp; done))))
      go_meet
      case rel => exact ⟨_, (true), (by first | rfl | (simp; done) | (simp [*]; done)), H', ⟨by first | omega | exact Nat.le_refl _⟩, ⟨by (with_reducible repeat first | apply bN | apply bd | apply ba); exact BK161.out⟩, ⟨by (with_reducible repeat first | apply bN | apply bd | apply ba); exact BK163.out⟩, ⟨by repeat (first | (with_reducible first | exact HB.out | apply wa | apply wN | apply wd | refine ws ?_ GE161.out | refine ws ?_ GE163.out) | exact HB.out)⟩⟩
    subst c25
    have H1 : ((spec_LayerOf.f k a0_0 a0_1 a0_2 a0_3 a0_4 a0_5 a0_6 l0_7 a0_8 a0_9 l0_10 a0_11 a0_12 a0_13 a0_14 l0_15 l0_16 l0_17).bind fun t168 => (spec_l21Job.j0 k a1 ((rd_T143 l0_15 a1).f0) t165 (decide (((rd_T141 l0_16 a1).f1) > (wrap64 (t168 + 1)))) a0_0 a0_1 a0_2 a0_3 a0_4 a0_5 a0_6 l0_7 a0_8 a0_9 l0_10 a0_11 a0_12 a0_13 a0_14 l0_15 l0_16 l0_17 ((rd_T141 l0_16 a1).f0) ((rd_T141 l0_16 a1).f1) ((rd_T141 l0_16 a1).f2))) = some r := by rw [if_pos rfl] at H; exact H
    clear H
    have H := H1
    clear H1
    replace H := Option.bind_eq_some_iff.mp H
    obtain ⟨t168, A260, H⟩ := H
    replace H : (spec_l21Job.j0 k a1 ((rd_T143 l0_15 a1).f0) t165 (decide (((rd_T141 l0_16 a1).f1) > (wrap64 (t168 + 1)))) a0_0 a0_1 a0_2 a0_3 a0_4 a0_5 a0_6 l0_7 a0_8 a0_9 l0_10 a0_11 a0_12 a0_13 a0_14 l0_15 l0_16 l0_17 ((rd_T141 l0_16 a1).f0) ((rd_T141 l0_16 a1).f1) ((rd_T141 l0_16 a1).f2)) = some r := H
    have A26 := Aside0.mk A260
    clear A260
    have H' := Aside0.mk H
    clear H
    try go_wp2_with (first | ((with_reducible refine gate_dst (N := 57) rfl ?_); refine wpList_load_row (P := Try.prog) rfl _ _ rfl gb161 ?hx _ _ _ _ (by (with_reducible repeat first | apply bN | apply bd | apply ba); with_reducible exact BK161.out) Try.underlying39 rfl (by kernel_rfl) ?_; (case hx => first | rfl | (go_simp; done))))
    have n0_ : Aside0 ((((w10.setCell ⟨gb163, 0, none⟩ (.int .i64 ((rd_T141 l0_16 a1).f0))).setCell ⟨gb163, 1, none⟩ (.int .i64 ((rd_T141 l0_16 a1).f1))).setCell ⟨gb163, 2, none⟩ (.bool ((rd_T141 l0_16 a1).f2))).heap[gb161]? = some (.cells #[.int .i64 a0_0, .int .i64 a0_1, .string a0_2, .int .i64 a0_3, .int .i64 a0_4, .int .i64 a0_5, .int .i64 a0_6, .slice A0_7 l0_7.length c0_7, .int .i64 a0_8, .int .i64 a0_9, .slice A0_10 l0_10.length c0_10, .int .i64 a0_11, .bool a0_12, .int .i64 a0_13, .int .i64 a0_14, .slice (some ad164) l0_15.length c0_15, .slice (some ad162) l0_16.length c0_16, .slice A0_17 l0_17.length c0_17] 39 (0, 0))) := ⟨by (with_reducible repeat first | apply bN | apply bd | apply ba); refine blk_far ?_ NB161_163.out _; (with_reducible repeat first | apply bN | apply bd | apply ba); refine blk_far ?_ NB161_163.out _; (with_reducible repeat first | apply bN | apply bd | apply ba); refine blk_far ?_ NB161_163.out _; (with_reducible repeat first | apply bN | apply bd | apply ba); exact BK161.out⟩
    have n1_ : Aside0 ((((w10.setCell ⟨gb163, 0, none⟩ (.int .i64 ((rd_T141 l0_16 a1).f0))).setCell ⟨gb163, 1, none⟩ (.int .i64 ((rd_T141 l0_16 a1).f1))).setCell ⟨gb163, 2, none⟩ (.bool ((rd_T141 l0_16 a1).f2))).heap[gb163]? = some (.cells #[.int .i64 ((rd_T141 l0_16 a1).f0), .int .i64 ((rd_T141 l0_16 a1).f1), .bool ((rd_T141 l0_16 a1).f2)] 141 (0, 0))) := ⟨by (with_reducible repeat first | apply bN | apply bd | apply ba); refine blk_put (cs := #[.int .i64 ((rd_T141 l0_16 a1).f0), .int .i64 ((rd_T141 l0_16 a1).f1), .bool false]) ?_ 2 _ rfl; (with_reducible repeat first | apply bN | apply bd | apply ba); refine blk_put (cs := #[.int .i64 ((rd_T141 l0_16 a1).f0), .int .i64 0, .bool false]) ?_ 1 _ rfl; (with_reducible repeat first | apply bN | apply bd | apply ba); refine blk_put (cs := #[.int .i64 0, .int .i64 0, .bool false]) ?_ 0 _ rfl; (with_reducible repeat first | apply bN | apply bd | apply ba); exact BK163.out⟩
    have n2_ : Aside0 (Below w.heap.size w (((w10.setCell ⟨gb163, 0, none⟩ (.int .i64 ((rd_T141 l0_16 a1).f0))).setCell ⟨gb163, 1, none⟩ (.int .i64 ((rd_T141 l0_16 a1).f1))).setCell ⟨gb163, 2, none⟩ (.bool ((rd_T141 l0_16 a1).f2)))) := ⟨by repeat (first | (with_reducible first | exact HB.out | apply wa | apply wN | apply wd | refine ws ?_ GE161.out | refine ws ?_ GE163.out) | exact HB.out)⟩
    (try clear BK161)
    (try clear BK163)
    (try clear HB)
    (first | (rw [show World.drewN (((w10.setCell ⟨gb163, 0, none⟩ (.int .i64 ((rd_T141 l0_16 a1).f0))).setCell ⟨gb163, 1, none⟩ (.int .i64 ((rd_T141 l0_16 a1).f1))).setCell ⟨gb163, 2, none⟩ (.bool ((rd_T141 l0_16 a1).f2))) nd = World.drewN (((w10.setCell ⟨gb163, 0, none⟩ (.int .i64 ((rd_T141 l0_16 a1).f0))).setCell ⟨gb163, 1, none⟩ (.int .i64 ((rd_T141 l0_16 a1).f1))).setCell ⟨gb163, 2, none⟩ (.bool ((rd_T141 l0_16 a1).f2))) nd from rfl]; have p0_ := Aside0.mk (bN n0_.out nd); have p1_ := Aside0.mk (bN n1_.out nd); have p2_ := Aside0.mk (wN n2_.out nd); generalize World.drewN (((w10.setCell ⟨gb163, 0, none⟩ (.int .i64 ((rd_T141 l0_16 a1).f0))).setCell ⟨gb163, 1, none⟩ (.int .i64 ((rd_T141 l0_16 a1).f1))).setCell ⟨gb163, 2, none⟩ (.bool ((rd_T141 l0_16 a1).f2))) nd = w27 at p0_ p1_ p2_ ⊢; clear n0_ n1_ n2_; have n0_ := p0_; have n1_ := p1_; have n2_ := p2_; clear p0_ p1_ p2_) | generalize (((w10.setCell ⟨gb163, 0, none⟩ (.int .i64 ((rd_T141 l0_16 a1).f0))).setCell ⟨gb163, 1, none⟩ (.int .i64 ((rd_T141 l0_16 a1).f1))).setCell ⟨gb163, 2, none⟩ (.bool ((rd_T141 l0_16 a1).f2))) = w27 at n0_ n1_ n2_ ⊢)
    have BK161 := n0_
    have BK163 := n1_
    have HB := n2_
    clear n0_ n1_ n2_
    have n0_ := Aside0.mk (bd BK161.out)
    have n1_ := Aside0.mk (bd BK163.out)
    have n2_ := Aside0.mk (wd HB.out)
    clear BK161
    clear BK163
    clear HB
    have BK161 := n0_
    have BK163 := n1_
    have HB := n2_
    clear n0_ n1_ n2_
    have p166 : 0 ≤ (t165 : Int) := of_decide_eq_true (by first | (with_reducible assumption) | assumption)
    have q166 : t165 < (l0_7.length : Int) := of_decide_eq_true (by first | (with_reducible assumption) | assumption)
    obtain ⟨ad166, e166, hx166_0, hx166_1, hx166_2, hx166_3⟩ := at_T84 HR0_7.out t165 p166 q166
    have hw166_3 := hx166_3
    have hw166_2 := hx166_2
    have hw166_1 := hx166_1
    have hw166_0 := hx166_0
    (try rw [← Nbq20.out] at hx166_3) <;> (try rw [← Nbq20.out] at hw166_3)
    cases e166
    replace hx166_0 := (HB.out.cell (World.block_lt_of_cell? w _ hx166_0)).trans hx166_0
    replace hx166_1 := (HB.out.cell (World.block_lt_of_cell? w _ hx166_1)).trans hx166_1
    replace hx166_2 := (HB.out.cell (World.block_lt_of_cell? w _ hx166_2)).trans hx166_2
    replace hx166_3 := (HB.out.cell (World.block_lt_of_cell? w _ hx166_3)).trans hx166_3
    replace p166 := eq_true p166
    replace q166 := eq_true q166
    refine start_ (n := 36) (S := fun w' => w'.heap[gb161]? = some (.cells #[.int .i64 a0_0, .int .i64 a0_1, .string a0_2, .int .i64 a0_3, .int .i64 a0_4, .int .i64 a0_5, .int .i64 a0_6, .slice (some ad166) l0_7.length c0_7, .int .i64 a0_8, .int .i64 a0_9, .slice A0_10 l0_10.length c0_10, .int .i64 a0_11, .bool a0_12, .int .i64 a0_13, .int .i64 a0_14, .slice (some ad164) l0_15.length c0_15, .slice (some ad162) l0_16.length c0_16, .slice A0_17 l0_17.length c0_17] 39 (0, 0)) ∧ w'.cell? ⟨gb163, 0, none⟩ = some (.int .i64 ((rd_T141 l0_16 a1).f0)) ∧ w'.cell? ⟨gb163, 1, none⟩ = some (.int .i64 ((rd_T141 l0_16 a1).f1)) ∧ w'.cell? ⟨gb163, 2, none⟩ = some (.bool ((rd_T141 l0_16 a1).f2)) ∧ w'.cell? (ad166.add ((t165).toNat * 4)) = some (.int .i64 ((rd_T84 l0_7 t165).f0)) ∧ w'.cell? ⟨(ad166.add ((t165).toNat * 4)).block, (ad166.add ((t165).toNat * 4)).off + 1, none⟩ = some (.int .i64 ((rd_T84 l0_7 t165).f1)) ∧ w'.cell? ⟨(ad166.add ((t165).toNat * 4)).block, (ad166.add ((t165).toNat * 4)).off + 2, none⟩ = some (.int .i64 ((rd_T84 l0_7 t165).f2)) ∧ w'.cell? ⟨(ad166.add ((t165).toNat * 4)).block, (ad166.add ((t165).toNat * 4)).off + 3, none⟩ = some (.bool false)) (ds := []) #[false, false, false, false, false, false, false, false, false, false, false, false, false, false, false, false, false, false, false, false, false, false, false, false, false, false, false, false, false, false, false, false, false, false, false, false] (by kernel_rfl) rfl rfl ⟨BK161.out, (bc BK163.out 0).trans rfl, (bc BK163.out 1).trans rfl, (bc BK163.out 2).trans rfl, ((HB.out.cell (World.block_lt_of_cell? w _ hw166_0)).trans hw166_0), ((HB.out.cell (World.block_lt_of_cell? w _ hw166_1)).trans hw166_1), ((HB.out.cell (World.block_lt_of_cell? w _ hw166_2)).trans hw166_2), ((HB.out.cell (World.block_lt_of_cell? w _ hw166_3)).trans hw166_3)⟩ (fun hHeld => ?_); refine with_tabW spec_l21Job.tab4 spec_l21Job.bits4 (fun HT_ HW_ => ?_)
    generalize w27.drew = w28 at BK161 BK163 HB hx166_0 hx166_1 hx166_2 hx166_3 hHeld ⊢
    refine plan_ [(0, 26, 0), (1, 27, 0), (2, 28, 0), (3, 29, 0), (4, 30, 0), (5, 31, 2), (6, 32, 0), (7, 33, 0), (8, 34, 0), (9, 35, 0), (10, 36, 0), (11, 37, 0), (12, 38, 0), (14, 40, 0), (13, 39, 2), (15, 41, 0), (16, 42, 0), (17, 43, 2), (18, 44, 0), (19, 45, 0), (20, 46, 0), (22, 48, 0), (23, 49, 0), (21, 47, 2), (24, 50, 2)] ?_
    repeat (first | (refine p0_ (v := ?_) (a' := ?_) HT_.out (by rfl) (by rfl) (by rfl) (by kernel_rfl) (by exact fun _ _ _ h => h) (Or.inl ⟨by rfl, ?_⟩) ?_ ?_; rotate_left; (· (intro w'; go_simp; with_reducible rfl)); rotate_left; (· (simp only [Act.put, List.setIfInBounds_toArray, List.set_cons_zero, List.set_cons_succ, i64_w, i32_w]; rfl))) | (refine p2_ (v := ?_) (a' := ?_) HT_.out HW_.out (by rfl) (by rfl) (by rfl) (by kernel_rfl) (by exact fun _ _ _ h => h) (Or.inl ⟨by rfl, ?_⟩) hHeld ?_ ?_; rotate_left; (· (rintro w' ⟨s0, s1, s2, s3, s4, s5, s6, s7⟩; have sq0 := bc s0; clear s0; go_simp; with_reducible rfl)); rotate_left; (· (simp only [Act.put, List.setIfInBounds_toArray, List.set_cons_zero, List.set_cons_succ, i64_w, i32_w]; rfl))))
    with_reducible refine end_ ?_
    refine one_ (i := 25) (N := some 51) #[true, true, true, true, true, true, true, true, true, true, true, true, true, true, true, true, true, true, true, true, true, true, true, true, true, true, false, false, false, false, false, false, false, false, false, false] rfl rfl (one_of HT_.out (by kernel_rfl)) (by decide) (fun K hK => ?_)
    refine goes_ Try.func107 (by kernel_rfl) rfl #[.int .i64 ((rd_T141 l0_16 a1).f1), .int .i64 0, .int .i64 a0_13] (by rfl) rfl rfl (by (try simp only [List.map_toArray, List.map_cons, List.map_nil]); first | done | rfl | (simp only [List.length_drop, List.length_take]; rfl)) ?_
    with_reducible refine (spec_l01In.calls ((rd_T141 l0_16 a1).f1) 0 a0_13 true _ A24.out).mono ?_
    rintro e w' ⟨rfl, ⟨nd, rfl⟩⟩
    refine ⟨_, rfl, ?_⟩
    refine hK.out _ _ ⟨BK161.out, (bc BK163.out 0).trans rfl, (bc BK163.out 1).trans rfl, (bc BK163.out 2).trans rfl, ((HB.out.cell (World.block_lt_of_cell? w _ hw166_0)).trans hw166_0), ((HB.out.cell (World.block_lt_of_cell? w _ hw166_1)).trans hw166_1), ((HB.out.cell (World.block_lt_of_cell? w _ hw166_2)).trans hw166_2), ((HB.out.cell (World.block_lt_of_cell? w _ hw166_3)).trans hw166_3)⟩ (fun hHeld => ?_)
    clear hK K
    refine norm_ (a' := ?_) ?_ ?_
    rotate_left
    · show Act.put _ (some 51) _ = _
      simp only [Act.put, List.setIfInBounds_toArray, List.set_cons_zero, List.set_cons_succ, i64_w, i32_w]
      rfl
    refine plan_ [(26, 52, 0), (27, 53, 0), (28, 54, 0), (29, 55, 0), (30, 56, 2)] ?_
    repeat (first | (refine p0_ (v := ?_) (a' := ?_) HT_.out (by rfl) (by rfl) (by rfl) (by kernel_rfl) (by exact fun _ _ _ h => h) (Or.inl ⟨by rfl, ?_⟩) ?_ ?_; rotate_left; (· (intro w'; go_simp; with_reducible rfl)); rotate_left; (· (simp only [Act.put, List.setIfInBounds_toArray, List.set_cons_zero, List.set_cons_succ, i64_w, i32_w]; rfl))) | (refine p2_ (v := ?_) (a' := ?_) HT_.out HW_.out (by rfl) (by rfl) (by rfl) (by kernel_rfl) (by exact fun _ _ _ h => h) (Or.inl ⟨by rfl, ?_⟩) hHeld ?_ ?_; rotate_left; (· (rintro w' ⟨s0, s1, s2, s3, s4, s5, s6, s7⟩; have sq0 := bc s0; clear s0; go_simp; with_reducible rfl)); rotate_left; (· (simp only [Act.put, List.setIfInBounds_toArray, List.set_cons_zero, List.set_cons_succ, i64_w, i32_w]; rfl))))
    with_reducible refine end_ ?_
    refine take_ (i := 31) (N := some 57) (v := .agg #[.int .i64 a0_0, .int .i64 a0_1, .string a0_2, .int .i64 a0_3, .int .i64 a0_4, .int .i64 a0_5, .int .i64 a0_6, .slice (some ad166) l0_7.length c0_7, .int .i64 a0_8, .int .i64 a0_9, .slice A0_10 l0_10.length c0_10, .int .i64 a0_11, .bool a0_12, .int .i64 a0_13, .int .i64 a0_14, .slice (some ad164) l0_15.length c0_15, .slice (some ad162) l0_16.length c0_16, .slice A0_17 l0_17.length c0_17]) (a' := ?_) #[true, true, true, true, true, true, true, true, true, true, true, true, true, true, true, true, true, true, true, true, true, true, true, true, true, true, true, true, true, true, true, true, false, false, false, false] rfl rfl (take_ofW HT_.out HW_.out (by kernel_rfl)) (fun _ _ _ h => h) (Or.inl ⟨by rfl, ?_⟩) hHeld ?_ ?_
    · rintro w' ⟨s0, s1, s2, s3, s4, s5, s6, s7⟩
      exact Go.Proofs.Ytfinjkjnoobbjaa.MyHof.exec_load_row (ty := 39) (x := Operand.tmp 2) (by rfl) (by first | rfl | (go_simp; done)) s0 Try.underlying39 rfl (by kernel_rfl)
    rotate_left
    · simp only [Act.put, List.setIfInBounds_toArray, List.set_cons_zero, List.set_cons_succ, i64_w, i32_w]
      rfl
    refine one_ (i := 32) (N := some 58) #[true, true, true, true, true, true, true, true, true, true, true, true, true, true, true, true, true, true, true, true, true, true, true, true, true, true, true, true, true, true, true, true, true, false, false, false] rfl rfl (one_of HT_.out (by kernel_rfl)) (by decide) (fun K hK => ?_)
    refine goes_ Try.func71 (by kernel_rfl) rfl #[.agg #[.int .i64 a0_0, .int .i64 a0_1, .string a0_2, .int .i64 a0_3, .int .i64 a0_4, .int .i64 a0_5, .int .i64 a0_6, .slice (some ad166) l0_7.length c0_7, .int .i64 a0_8, .int .i64 a0_9, .slice A0_10 l0_10.length c0_10, .int .i64 a0_11, .bool a0_12, .int .i64 a0_13, .int .i64 a0_14, .slice (some ad164) l0_15.length c0_15, .slice (some ad162) l0_16.length c0_16, .slice A0_17 l0_17.length c0_17]] (by rfl) rfl rfl (by (try simp only [List.map_toArray, List.map_cons, List.map_nil]); first | done | rfl | (simp only [List.length_drop, List.length_take]; rfl)) ?_
    with_reducible refine (spec_LayerOf.calls k a0_0 a0_1 a0_2 a0_3 a0_4 a0_5 a0_6 _ _ l0_7 a0_8 a0_9 _ _ l0_10 a0_11 a0_12 a0_13 a0_14 _ _ l0_15 _ _ l0_16 _ _ l0_17 t168 _ ?side1 ?side2 ?side3 ?side4 ?side5 ?side6 ?side7 ?side8 ?side9 ?side10 A26.out).mono ?_
    (case side1 => repeat (first | exact (Kd.C_below HR0_7.out (by repeat (first | (with_reducible first | exact HB.out | apply wa | apply wN | apply wd | refine ws ?_ GE161.out | refine ws ?_ GE163.out) | exact HB.out))) | (with_reducible refine Kd.Ca ?_ _) | (with_reducible refine Kd.Cn ?_ _) | (with_reducible refine Kd.Cd ?_)))
    (case side2 => exact HC0_7.out)
    (case side3 => repeat (first | exact (Kd.C_below HR0_10.out (by repeat (first | (with_reducible first | exact HB.out | apply wa | apply wN | apply wd | refine ws ?_ GE161.out | refine ws ?_ GE163.out) | exact HB.out))) | (with_reducible refine Kd.Ca ?_ _) | (with_reducible refine Kd.Cn ?_ _) | (with_reducible refine Kd.Cd ?_)))
    (case side4 => exact HC0_10.out)
    (case side5 => repeat (first | exact (Kd.C_below HR0_15.out (by repeat (first | (with_reducible first | exact HB.out | apply wa | apply wN | apply wd | refine ws ?_ GE161.out | refine ws ?_ GE163.out) | exact HB.out))) | (with_reducible refine Kd.Ca ?_ _) | (with_reducible refine Kd.Cn ?_ _) | (with_reducible refine Kd.Cd ?_)))
    (case side6 => exact HC0_15.out)
    (case side7 => repeat (first | exact (Kd.C_below HR0_16.out (by repeat (first | (with_reducible first | exact HB.out | apply wa | apply wN | apply wd | refine ws ?_ GE161.out | refine ws ?_ GE163.out) | exact HB.out))) | (with_reducible refine Kd.Ca ?_ _) | (with_reducible refine Kd.Cn ?_ _) | (with_reducible refine Kd.Cd ?_)))
    (case side8 => exact HC0_16.out)
    (case side9 => repeat (first | exact (Kd.C_below HR0_17.out (by repeat (first | (with_reducible first | exact HB.out | apply wa | apply wN | apply wd | refine ws ?_ GE161.out | refine ws ?_ GE163.out) | exact HB.out))) | (with_reducible refine Kd.Ca ?_ _) | (with_reducible refine Kd.Cn ?_ _) | (with_reducible refine Kd.Cd ?_)))
    (case side10 => exact HC0_17.out)
    rintro e w29 ⟨rfl, hb⟩
    refine ⟨_, rfl, ?_⟩
    have n0_ := Aside0.mk (bb (g := gb161) (by first | (with_reducible exact BK161.out) | (with_reducible exact bN BK161.out _) | (with_reducible exact bd BK161.out) | ((with_reducible repeat first | apply bN | apply bd | apply ba); exact BK161.out)) hb)
    have n1_ := Aside0.mk (bb (g := gb163) (by first | (with_reducible exact BK163.out) | (with_reducible exact bN BK163.out _) | (with_reducible exact bd BK163.out) | ((with_reducible repeat first | apply bN | apply bd | apply ba); exact BK163.out)) hb)
    have n2_ := Aside0.mk (below_step (by repeat (first | (with_reducible first | exact HB.out | apply wa | apply wN | apply wd | refine ws ?_ GE161.out | refine ws ?_ GE163.out) | exact HB.out)) hb)
    clear BK161
    clear BK163
    clear HB
    have BK161 := n0_
    have BK163 := n1_
    have HB := n2_
    clear n0_ n1_ n2_
    (try clear hb)
    (try clear hb2)
    (try clear hk)
    (try clear hi)
    refine hK.out _ _ ⟨BK161.out, (bc BK163.out 0).trans rfl, (bc BK163.out 1).trans rfl, (bc BK163.out 2).trans rfl, ((HB.out.cell (World.block_lt_of_cell? w _ hw166_0)).trans hw166_0), ((HB.out.cell (World.block_lt_of_cell? w _ hw166_1)).trans hw166_1), ((HB.out.cell (World.block_lt_of_cell? w _ hw166_2)).trans hw166_2), ((HB.out.cell (World.block_lt_of_cell? w _ hw166_3)).trans hw166_3)⟩ (fun hHeld => ?_)
    clear hK K
    refine norm_ (a' := ?_) ?_ ?_
    rotate_left
    · show Act.put _ (some 58) _ = _
      simp only [Act.put, List.setIfInBounds_toArray, List.set_cons_zero, List.set_cons_succ, i64_w, i32_w]
      rfl
    refine plan_ [(33, 59, 0), (34, 60, 0), (35, 61, 0)] ?_
    repeat (refine p0_ (v := ?_) (a' := ?_) HT_.out (by rfl) (by rfl) (by rfl) (by kernel_rfl) (by exact fun _ _ _ h => h) (Or.inl ⟨by rfl, ?_⟩) ?_ ?_; rotate_left; (· (intro w'; go_simp; with_reducible rfl)); rotate_left; (· (simp only [Act.put, List.setIfInBounds_toArray, List.set_cons_zero, List.set_cons_succ, i64_w, i32_w]; rfl)))
    with_reducible refine end_ ?_
    refine done_ (done_of HT_.out (by kernel_rfl)) ?_
    try go_wp2_with (first | ((with_reducible refine gate_dst (N := 57) rfl ?_); refine wpList_load_row (P := Try.prog) rfl _ _ rfl gb161 ?hx _ _ _ _ (by (with_reducible repeat first | apply bN | apply bd | apply ba); with_reducible exact BK161.out) Try.underlying39 rfl (by kernel_rfl) ?_; (case hx => first | rfl | (go_simp; done))))
    go_meet
    case rel => exact ⟨_, (decide (((rd_T141 l0_16 a1).f1) > (wrap64 (t168 + 1)))), (by first | rfl | (simp; done) | (simp [*]; done)), H', ⟨by first | omega | exact Nat.le_refl _⟩, ⟨by (with_reducible repeat first | apply bN | apply bd | apply ba); exact BK161.out⟩, ⟨by (with_reducible repeat first | apply bN | apply bd | apply ba); exact BK163.out⟩, ⟨by repeat (first | (with_reducible first | exact HB.out | apply wa | apply wN | apply wd | refine ws ?_ GE161.out | refine ws ?_ GE163.out) | exact HB.out)⟩⟩
  case rest =>
    clear HC7
    try clear c1
    try clear p1
    try clear q1
    try clear hx1
    try clear c2
    try clear p2
    try clear q2
    try clear p6
    try clear c10
    try clear c14
    try clear c14b0
    try clear c14b1
    try clear p16
    try clear q16
    try clear hx16
    try clear c18
    try clear c19
    try clear q20
    try clear c25
    try clear hx166_0
    try clear hx166_1
    try clear hx166_2
    try clear hx166_3
    try clear p166
    try clear q166
    obtain ⟨kq, x61_6, rfl, HA, HJ6, BK161, BK163, HB⟩ := hcut
    cases kq with
    | zero => exact absurd HA.out (by simp [spec_l21Job.j0])
    | succ kj6 =>
      have H := HA.out
      clear HA
      simp only [spec_l21Job.j0] at H
      by_cases c34 : x61_6 = true
      · subst c34
        have H1 : (some false) = some r := by rw [if_pos rfl] at H; exact H
        clear H
        have H := H1
        clear H1
        obtain rfl := Option.some.inj H
        go_wp2_with (first | ((with_reducible refine gate_dst (N := 57) rfl ?_); refine wpList_load_row (P := Try.prog) rfl _ _ rfl gb161 ?hx _ _ _ _ (by (with_reducible repeat first | apply bN | apply bd | apply ba); with_reducible exact BK161.out) Try.underlying39 rfl (by kernel_rfl) ?_; (case hx => first | rfl | (go_simp; done))))
        go_ret
        exact ⟨by first | rfl | (simp [errW_none, errW_some] <;> rfl) | (simp [*, errW_none, errW_some] <;> rfl), by repeat (first | (with_reducible first | exact HB.out | apply wa | apply wN | apply wd | refine ws ?_ GE161.out | refine ws ?_ GE163.out) | exact HB.out)⟩
      replace c34 := Bool.eq_false_iff.mpr c34
      subst c34
      have H1 : (spec_l21Job.l0 kj6 a1 ((rd_T143 l0_15 a1).f0) t165 0 a0_0 a0_1 a0_2 a0_3 a0_4 a0_5 a0_6 l0_7 a0_8 a0_9 l0_10 a0_11 a0_12 a0_13 a0_14 l0_15 l0_16 l0_17 ((rd_T141 l0_16 a1).f0) ((rd_T141 l0_16 a1).f1) ((rd_T141 l0_16 a1).f2)) = some r := by rw [if_neg (show ¬ (false = true) by decide)] at H; exact H
      clear H
      have H := H1
      clear H1
      have H' := Aside0.mk H
      clear H
      go_wp2_with (first | ((with_reducible refine gate_dst (N := 57) rfl ?_); refine wpList_load_row (P := Try.prog) rfl _ _ rfl gb161 ?hx _ _ _ _ (by (with_reducible repeat first | apply bN | apply bd | apply ba); with_reducible exact BK161.out) Try.underlying39 rfl (by kernel_rfl) ?_; (case hx => first | rfl | (go_simp; done))))
      go_loopg [8] kj6 (fun kq v8 w' => ∃ (x8_2 : Int), v8 = .int .i64 x8_2 ∧ Aside0 (spec_l21Job.l0 kq a1 ((rd_T143 l0_15 a1).f0) t165 x8_2 a0_0 a0_1 a0_2 a0_3 a0_4 a0_5 a0_6 l0_7 a0_8 a0_9 l0_10 a0_11 a0_12 a0_13 a0_14 l0_15 l0_16 l0_17 ((rd_T141 l0_16 a1).f0) ((rd_T141 l0_16 a1).f1) ((rd_T141 l0_16 a1).f2) = some r) ∧ Aside0 (kq ≤ kj6) ∧ Aside0 (w'.heap[gb161]? = some (.cells #[.int .i64 a0_0, .int .i64 a0_1, .string a0_2, .int .i64 a0_3, .int .i64 a0_4, .int .i64 a0_5, .int .i64 a0_6, (.slice A0_7 l0_7.length c0_7), .int .i64 a0_8, .int .i64 a0_9, (.slice A0_10 l0_10.length c0_10), .int .i64 a0_11, .bool a0_12, .int .i64 a0_13, .int .i64 a0_14, (.slice (some ad164) l0_15.length c0_15), (.slice (some ad162) l0_16.length c0_16), (.slice A0_17 l0_17.length c0_17)] 39 (0, 0))) ∧ Aside0 (w'.heap[gb163]? = some (.cells #[.int .i64 ((rd_T141 l0_16 a1).f0), .int .i64 ((rd_T141 l0_16 a1).f1), .bool ((rd_T141 l0_16 a1).f2)] 141 (0, 0))) ∧ Aside0 (Below w.heap.size w w'))
      case atStart => exact ⟨(0), (by first | rfl | (simp; done) | (simp [*]; done)), H', ⟨Nat.le_refl _⟩, ⟨by (with_reducible repeat first | apply bN | apply bd | apply ba); exact BK161.out⟩, ⟨by (with_reducible repeat first | apply bN | apply bd | apply ba); exact BK163.out⟩, ⟨by repeat (first | (with_reducible first | exact HB.out | apply wa | apply wN | apply wd | refine ws ?_ GE161.out | refine ws ?_ GE163.out) | exact HB.out)⟩⟩
      case round =>
        clear H'
        try clear c1
        try clear p1
        try clear q1
        try clear hx1
        try clear c2
        try clear p2
        try clear q2
        try clear c3
        try clear p6
        try clear c10
        try clear c14
        try clear c14b0
        try clear c14b1
        try clear p16
        try clear q16
        try clear hx16
        try clear c18
        try clear c19
        try clear q20
        try clear c25
        try clear c34
        try clear hx166_0
        try clear hx166_1
        try clear hx166_2
        try clear hx166_3
        try clear p1
        try clear p16
        try clear p166
        try clear p2
        try clear p6
        try clear q1
        try clear q16
        try clear q166
        try clear q2
        try clear q20
        obtain ⟨x8_2, rfl, HA, HK2, BK161, BK163, HB⟩ := hrel
        cases gk with
        | zero => exact absurd HA.out (by simp [spec_l21Job.l0])
        | succ k2 =>
          have H := HA.out
          clear HA
          simp only [spec_l21Job.l0] at H
          by_cases c35 : x8_2 < a1
          · rw [if_pos c35] at H
            have c35b0 : decide (x8_2 < a1) = true := decide_eq_true c35
            clear c35
            by_cases c36 : 0 ≤ x8_2
            rotate_left
            · rw [if_neg c36] at H
              exact absurd H (by simp)
            rw [if_pos c36] at H
            have c36b0 : decide (0 ≤ x8_2) = true := decide_eq_true c36
            clear c36
            by_cases c37 : x8_2 < (l0_16.length : Int)
            rotate_left
            · rw [if_neg c37] at H
              exact absurd H (by simp)
            rw [if_pos c37] at H
            have c37b0 : decide (x8_2 < (l0_16.length : Int)) = true := decide_eq_true c37
            clear c37
            by_cases c38 : ((rd_T141 l0_16 x8_2).f0) = ((rd_T141 l0_16 a1).f0)
            · rw [if_pos c38] at H
              have c38b0 : (((rd_T141 l0_16 x8_2).f0) == ((rd_T141 l0_16 a1).f0)) = true := beq_iff_eq.mpr c38
              have c38b1 : (((rd_T141 l0_16 x8_2).f0) != ((rd_T141 l0_16 a1).f0)) = false := bne_eq_false_iff_eq.mpr c38
              clear c38
              obtain rfl := Option.some.inj H
              try go_wp2_with (first | ((with_reducible refine gate_dst (N := 57) rfl ?_); refine wpList_load_row (P := Try.prog) rfl _ _ rfl gb161 ?hx _ _ _ _ (by (with_reducible repeat first | apply bN | apply bd | apply ba); with_reducible exact BK161.out) Try.underlying39 rfl (by kernel_rfl) ?_; (case hx => first | rfl | (go_simp; done))))
              have n0_ := Aside0.mk (bd BK161.out)
              have n1_ := Aside0.mk (bd BK163.out)
              have n2_ := Aside0.mk (wd HB.out)
              clear BK161
              clear BK163
              clear HB
              have BK161 := n0_
              have BK163 := n1_
              have HB := n2_
              clear n0_ n1_ n2_
              have p169 : 0 ≤ (x8_2 : Int) := of_decide_eq_true (by first | (with_reducible assumption) | assumption)
              have q169 : x8_2 < (l0_16.length : Int) := of_decide_eq_true (by first | (with_reducible assumption) | assumption)
              obtain ⟨ad169, e169, hx169_0, hx169_1, hx169_2⟩ := at_T141 HR0_16.out x8_2 p169 q169
              have hw169_2 := hx169_2
              have hw169_1 := hx169_1
              have hw169_0 := hx169_0
              obtain rfl : ad162 = ad169 := (by injection e169)
              replace hx169_0 := (HB.out.cell (World.block_lt_of_cell? w _ hx169_0)).trans hx169_0
              replace hx169_1 := (HB.out.cell (World.block_lt_of_cell? w _ hx169_1)).trans hx169_1
              replace hx169_2 := (HB.out.cell (World.block_lt_of_cell? w _ hx169_2)).trans hx169_2
              replace p169 := eq_true p169
              replace q169 := eq_true q169
              refine start_ (n := 9) (S := fun w' => w'.cell? ⟨gb161, 16, none⟩ = some (.slice (some ad162) l0_16.length c0_16) ∧ w'.cell? ⟨gb163, 0, none⟩ = some (.int .i64 ((rd_T141 l0_16 a1).f0)) ∧ w'.cell? ⟨gb163, 1, none⟩ = some (.int .i64 ((rd_T141 l0_16 a1).f1)) ∧ w'.cell? ⟨gb163, 2, none⟩ = some (.bool ((rd_T141 l0_16 a1).f2)) ∧ w'.cell? (ad162.add ((x8_2).toNat * 3)) = some (.int .i64 ((rd_T141 l0_16 x8_2).f0)) ∧ w'.cell? ⟨(ad162.add ((x8_2).toNat * 3)).block, (ad162.add ((x8_2).toNat * 3)).off + 1, none⟩ = some (.int .i64 ((rd_T141 l0_16 x8_2).f1)) ∧ w'.cell? ⟨(ad162.add ((x8_2).toNat * 3)).block, (ad162.add ((x8_2).toNat * 3)).off + 2, none⟩ = some (.bool ((rd_T141 l0_16 x8_2).f2))) (ds := []) #[false, false, false, false, false, false, false, false, false] (by kernel_rfl) rfl rfl ⟨(bc BK161.out 16).trans rfl, (bc BK163.out 0).trans rfl, (bc BK163.out 1).trans rfl, (bc BK163.out 2).trans rfl, ((HB.out.cell (World.block_lt_of_cell? w _ hw169_0)).trans hw169_0), ((HB.out.cell (World.block_lt_of_cell? w _ hw169_1)).trans hw169_1), ((HB.out.cell (World.block_lt_of_cell? w _ hw169_2)).trans hw169_2)⟩ (fun hHeld => ?_); refine with_tabW spec_l21Job.tab9 spec_l21Job.bits9 (fun HT_ HW_ => ?_)
              generalize wr.drew = w39 at BK161 BK163 HB hx169_0 hx169_1 hx169_2 hHeld ⊢
              refine plan_ [(0, 67, 0), (2, 69, 0), (6, 73, 0), (1, 68, 2), (3, 70, 0), (4, 71, 0), (5, 72, 2), (7, 74, 2), (8, 75, 0)] ?_
              repeat (first | (refine p0_ (v := ?_) (a' := ?_) HT_.out (by rfl) (by rfl) (by rfl) (by kernel_rfl) (by exact fun _ _ _ h => h) (Or.inl ⟨by rfl, ?_⟩) ?_ ?_; rotate_left; (· (intro w'; go_simp; with_reducible rfl)); rotate_left; (· (simp only [Act.put, List.setIfInBounds_toArray, List.set_cons_zero, List.set_cons_succ, i64_w, i32_w]; rfl))) | (refine p2_ (v := ?_) (a' := ?_) HT_.out HW_.out (by rfl) (by rfl) (by rfl) (by kernel_rfl) (by exact fun _ _ _ h => h) (Or.inl ⟨by rfl, ?_⟩) hHeld ?_ ?_; rotate_left; (· (rintro w' ⟨s0, s1, s2, s3, s4, s5, s6⟩; go_simp; with_reducible rfl)); rotate_left; (· (simp only [Act.put, List.setIfInBounds_toArray, List.set_cons_zero, List.set_cons_succ, i64_w, i32_w]; rfl))))
              with_reducible refine end_ ?_
              refine done_ (done_of HT_.out (by kernel_rfl)) ?_
              try go_wp2_with (first | ((with_reducible refine gate_dst (N := 57) rfl ?_); refine wpList_load_row (P := Try.prog) rfl _ _ rfl gb161 ?hx _ _ _ _ (by (with_reducible repeat first | apply bN | apply bd | apply ba); with_reducible exact BK161.out) Try.underlying39 rfl (by kernel_rfl) ?_; (case hx => first | rfl | (go_simp; done))))
              go_ret
              exact ⟨by first | rfl | (simp [errW_none, errW_some] <;> rfl) | (simp [*, errW_none, errW_some] <;> rfl), by repeat (first | (with_reducible first | exact HB.out | apply wa | apply wN | apply wd | refine ws ?_ GE161.out | refine ws ?_ GE163.out) | exact HB.out)⟩
            rw [if_neg c38] at H
            have c38b0 : (((rd_T141 l0_16 x8_2).f0) == ((rd_T141 l0_16 a1).f0)) = false := beq_eq_false_iff_ne.mpr c38
            have c38b1 : (((rd_T141 l0_16 x8_2).f0) != ((rd_T141 l0_16 a1).f0)) = true := bne_iff_ne.mpr c38
            have H' := Aside0.mk H
            clear H
            try go_wp2_with (first | ((with_reducible refine gate_dst (N := 57) rfl ?_); refine wpList_load_row (P := Try.prog) rfl _ _ rfl gb161 ?hx _ _ _ _ (by (with_reducible repeat first | apply bN | apply bd | apply ba); with_reducible exact BK161.out) Try.underlying39 rfl (by kernel_rfl) ?_; (case hx => first | rfl | (go_simp; done))))
            have n0_ := Aside0.mk (bd BK161.out)
            have n1_ := Aside0.mk (bd BK163.out)
            have n2_ := Aside0.mk (wd HB.out)
            clear BK161
            clear BK163
            clear HB
            have BK161 := n0_
            have BK163 := n1_
            have HB := n2_
            clear n0_ n1_ n2_
            have p169 : 0 ≤ (x8_2 : Int) := of_decide_eq_true (by first | (with_reducible assumption) | assumption)
            have q169 : x8_2 < (l0_16.length : Int) := of_decide_eq_true (by first | (with_reducible assumption) | assumption)
            obtain ⟨ad169, e169, hx169_0, hx169_1, hx169_2⟩ := at_T141 HR0_16.out x8_2 p169 q169
            have hw169_2 := hx169_2
            have hw169_1 := hx169_1
            have hw169_0 := hx169_0
            obtain rfl : ad162 = ad169 := (by injection e169)
            replace hx169_0 := (HB.out.cell (World.block_lt_of_cell? w _ hx169_0)).trans hx169_0
            replace hx169_1 := (HB.out.cell (World.block_lt_of_cell? w _ hx169_1)).trans hx169_1
            replace hx169_2 := (HB.out.cell (World.block_lt_of_cell? w _ hx169_2)).trans hx169_2
            replace p169 := eq_true p169
            replace q169 := eq_true q169
            refine start_ (n := 9) (S := fun w' => w'.cell? ⟨gb161, 16, none⟩ = some (.slice (some ad162) l0_16.length c0_16) ∧ w'.cell? ⟨gb163, 0, none⟩ = some (.int .i64 ((rd_T141 l0_16 a1).f0)) ∧ w'.cell? ⟨gb163, 1, none⟩ = some (.int .i64 ((rd_T141 l0_16 a1).f1)) ∧ w'.cell? ⟨gb163, 2, none⟩ = some (.bool ((rd_T141 l0_16 a1).f2)) ∧ w'.cell? (ad162.add ((x8_2).toNat * 3)) = some (.int .i64 ((rd_T141 l0_16 x8_2).f0)) ∧ w'.cell? ⟨(ad162.add ((x8_2).toNat * 3)).block, (ad162.add ((x8_2).toNat * 3)).off + 1, none⟩ = some (.int .i64 ((rd_T141 l0_16 x8_2).f1)) ∧ w'.cell? ⟨(ad162.add ((x8_2).toNat * 3)).block, (ad162.add ((x8_2).toNat * 3)).off + 2, none⟩ = some (.bool ((rd_T141 l0_16 x8_2).f2))) (ds := []) #[false, false, false, false, false, false, false, false, false] (by kernel_rfl) rfl rfl ⟨(bc BK161.out 16).trans rfl, (bc BK163.out 0).trans rfl, (bc BK163.out 1).trans rfl, (bc BK163.out 2).trans rfl, ((HB.out.cell (World.block_lt_of_cell? w _ hw169_0)).trans hw169_0), ((HB.out.cell (World.block_lt_of_cell? w _ hw169_1)).trans hw169_1), ((HB.out.cell (World.block_lt_of_cell? w _ hw169_2)).trans hw169_2)⟩ (fun hHeld => ?_); refine with_tabW spec_l21Job.tab9 spec_l21Job.bits9 (fun HT_ HW_ => ?_)
            generalize wr.drew = w40 at BK161 BK163 HB hx169_0 hx169_1 hx169_2 hHeld ⊢
            refine plan_ [(0, 67, 0), (2, 69, 0), (6, 73, 0), (1, 68, 2), (3, 70, 0), (4, 71, 0), (5, 72, 2), (7, 74, 2), (8, 75, 0)] ?_
            repeat (first | (refine p0_ (v := ?_) (a' := ?_) HT_.out (by rfl) (by rfl) (by rfl) (by kernel_rfl) (by exact fun _ _ _ h => h) (Or.inl ⟨by rfl, ?_⟩) ?_ ?_; rotate_left; (· (intro w'; go_simp; with_reducible rfl)); rotate_left; (· (simp only [Act.put, List.setIfInBounds_toArray, List.set_cons_zero, List.set_cons_succ, i64_w, i32_w]; rfl))) | (refine p2_ (v := ?_) (a' := ?_) HT_.out HW_.out (by rfl) (by rfl) (by rfl) (by kernel_rfl) (by exact fun _ _ _ h => h) (Or.inl ⟨by rfl, ?_⟩) hHeld ?_ ?_; rotate_left; (· (rintro w' ⟨s0, s1, s2, s3, s4, s5, s6⟩; go_simp; with_reducible rfl)); rotate_left; (· (simp only [Act.put, List.setIfInBounds_toArray, List.set_cons_zero, List.set_cons_succ, i64_w, i32_w]; rfl))))
            with_reducible refine end_ ?_
            refine done_ (done_of HT_.out (by kernel_rfl)) ?_
            try go_wp2_with (first | ((with_reducible refine gate_dst (N := 57) rfl ?_); refine wpList_load_row (P := Try.prog) rfl _ _ rfl gb161 ?hx _ _ _ _ (by (with_reducible repeat first | apply bN | apply bd | apply ba); with_reducible exact BK161.out) Try.underlying39 rfl (by kernel_rfl) ?_; (case hx => first | rfl | (go_simp; done))))
            go_roundg k2
            case measure => have := HJ6.out; have := HK2.out; omega
            case rel => exact ⟨(wrap64 (x8_2 + 1)), (by first | rfl | (simp; done) | (simp [*]; done)), H', ⟨by have := HJ6.out; have := HK2.out; omega⟩, ⟨by (with_reducible repeat first | apply bN | apply bd | apply ba); exact BK161.out⟩, ⟨by (with_reducible repeat first | apply bN | apply bd | apply ba); exact BK163.out⟩, ⟨by repeat (first | (with_reducible first | exact HB.out | apply wa | apply wN | apply wd | refine ws ?_ GE161.out | refine ws ?_ GE163.out) | exact HB.out)⟩⟩
          rw [if_neg c35] at H
          have c35b0 : decide (x8_2 < a1) = false := decide_eq_false c35
          clear c35
          by_cases c41 : 0 ≤ t165
          rotate_left
          · rw [if_neg c41] at H
            exact absurd H (by simp)
          rw [if_pos c41] at H
          have c41b0 : decide (0 ≤ t165) = true := decide_eq_true c41
          clear c41
          by_cases c42 : t165 < (l0_7.length : Int)
          rotate_left
          · rw [if_neg c42] at H
            exact absurd H (by simp)
          rw [if_pos c42] at H
          have c42b0 : decide (t165 < (l0_7.length : Int)) = true := decide_eq_true c42
          clear c42
          by_cases c43 : 0 ≤ ((rd_T141 l0_16 a1).f1)
          rotate_left
          · rw [if_neg c43] at H
            exact absurd H (by simp)
          rw [if_pos c43] at H
          have c43b0 : decide (0 ≤ ((rd_T141 l0_16 a1).f1)) = true := decide_eq_true c43
          clear c43
          by_cases c44 : ((rd_T141 l0_16 a1).f1) < (((rd_T143 l0_15 a1).f0).length : Int)
          rotate_left
          · rw [if_neg c44] at H
            exact absurd H (by simp)
          rw [if_pos c44] at H
          have c44b0 : decide (((rd_T141 l0_16 a1).f1) < (((rd_T143 l0_15 a1).f0).length : Int)) = true := decide_eq_true c44
          clear c44
          by_cases c45 : ((rd_T84 l0_7 t165).f1) = (rd ((rd_T143 l0_15 a1).f0) ((rd_T141 l0_16 a1).f1))
          rotate_left
          · rw [if_neg c45] at H
            have c45b0 : (((rd_T84 l0_7 t165).f1) == (rd ((rd_T143 l0_15 a1).f0) ((rd_T141 l0_16 a1).f1))) = false := beq_eq_false_iff_ne.mpr c45
            have c45b1 : (((rd_T84 l0_7 t165).f1) != (rd ((rd_T143 l0_15 a1).f0) ((rd_T141 l0_16 a1).f1))) = true := bne_iff_ne.mpr c45
            obtain rfl := Option.some.inj H
            try go_wp2_with (first | ((with_reducible refine gate_dst (N := 57) rfl ?_); refine wpList_load_row (P := Try.prog) rfl _ _ rfl gb161 ?hx _ _ _ _ (by (with_reducible repeat first | apply bN | apply bd | apply ba); with_reducible exact BK161.out) Try.underlying39 rfl (by kernel_rfl) ?_; (case hx => first | rfl | (go_simp; done))))
            have n0_ := Aside0.mk (bd BK161.out)
            have n1_ := Aside0.mk (bd BK163.out)
            have n2_ := Aside0.mk (wd HB.out)
            clear BK161
            clear BK163
            clear HB
            have BK161 := n0_
            have BK163 := n1_
            have HB := n2_
            clear n0_ n1_ n2_
            have p170 : 0 ≤ (t165 : Int) := of_decide_eq_true (by first | (with_reducible assumption) | assumption)
            have q170 : t165 < (l0_7.length : Int) := of_decide_eq_true (by first | (with_reducible assumption) | assumption)
            obtain ⟨ad170, e170, hx170_0, hx170_1, hx170_2, hx170_3⟩ := at_T84 HR0_7.out t165 p170 q170
            have hw170_3 := hx170_3
            have hw170_2 := hx170_2
            have hw170_1 := hx170_1
            have hw170_0 := hx170_0
            cases e170
            replace hx170_0 := (HB.out.cell (World.block_lt_of_cell? w _ hx170_0)).trans hx170_0
            replace hx170_1 := (HB.out.cell (World.block_lt_of_cell? w _ hx170_1)).trans hx170_1
            replace hx170_2 := (HB.out.cell (World.block_lt_of_cell? w _ hx170_2)).trans hx170_2
            replace hx170_3 := (HB.out.cell (World.block_lt_of_cell? w _ hx170_3)).trans hx170_3
            replace p170 := eq_true p170
            replace q170 := eq_true q170
            have p171 : 0 ≤ (((rd_T141 l0_16 a1).f1) : Int) := of_decide_eq_true (by first | (with_reducible assumption) | assumption)
            have q171 : ((rd_T141 l0_16 a1).f1) < (((rd_T143 l0_15 a1).f0).length : Int) := of_decide_eq_true (by first | (with_reducible assumption) | assumption)
            obtain ⟨ad171, e171, hx171_0⟩ := Kd.at_int HR164_0.out ((rd_T141 l0_16 a1).f1) p171 q171
            have hw171_0 := hx171_0
            cases e171
            replace hx171_0 := (HB.out.cell (World.block_lt_of_cell? w _ hx171_0)).trans hx171_0
            replace p171 := eq_true p171
            replace q171 := eq_true q171
            refine start_ (n := 12) (S := fun w' => w'.cell? ⟨gb161, 7, none⟩ = some (.slice (some ad170) l0_7.length c0_7) ∧ w'.cell? ⟨gb163, 0, none⟩ = some (.int .i64 ((rd_T141 l0_16 a1).f0)) ∧ w'.cell? ⟨gb163, 1, none⟩ = some (.int .i64 ((rd_T141 l0_16 a1).f1)) ∧ w'.cell? ⟨gb163, 2, none⟩ = some (.bool ((rd_T141 l0_16 a1).f2)) ∧ w'.cell? (ad170.add ((t165).toNat * 4)) = some (.int .i64 ((rd_T84 l0_7 t165).f0)) ∧ w'.cell? ⟨(ad170.add ((t165).toNat * 4)).block, (ad170.add ((t165).toNat * 4)).off + 1, none⟩ = some (.int .i64 ((rd_T84 l0_7 t165).f1)) ∧ w'.cell? ⟨(ad170.add ((t165).toNat * 4)).block, (ad170.add ((t165).toNat * 4)).off + 2, none⟩ = some (.int .i64 ((rd_T84 l0_7 t165).f2)) ∧ w'.cell? ⟨(ad170.add ((t165).toNat * 4)).block, (ad170.add ((t165).toNat * 4)).off + 3, none⟩ = some (.bool ((rd_T84 l0_7 t165).f3)) ∧ w'.cell? (ad171.add (((rd_T141 l0_16 a1).f1)).toNat) = some (.int .i64 (rd ((rd_T143 l0_15 a1).f0) ((rd_T141 l0_16 a1).f1)))) (ds := []) #[false, false, false, false, false, false, false, false, false, false, false, false] (by kernel_rfl) rfl rfl ⟨(bc BK161.out 7).trans rfl, (bc BK163.out 0).trans rfl, (bc BK163.out 1).trans rfl, (bc BK163.out 2).trans rfl, ((HB.out.cell (World.block_lt_of_cell? w _ hw170_0)).trans hw170_0), ((HB.out.cell (World.block_lt_of_cell? w _ hw170_1)).trans hw170_1), ((HB.out.cell (World.block_lt_of_cell? w _ hw170_2)).trans hw170_2), ((HB.out.cell (World.block_lt_of_cell? w _ hw170_3)).trans hw170_3), ((HB.out.cell (World.block_lt_of_cell? w _ hw171_0)).trans hw171_0)⟩ (fun hHeld => ?_); refine with_tabW spec_l21Job.tab11 spec_l21Job.bits11 (fun HT_ HW_ => ?_)
            generalize wr.drew = w63 at BK161 BK163 HB hx170_0 hx170_1 hx170_2 hx170_3 hx171_0 hHeld ⊢
            refine plan_ [(0, 76, 0), (2, 78, 0), (6, 82, 0), (7, 83, 0), (1, 77, 2), (3, 79, 0), (4, 80, 0), (5, 81, 2), (8, 84, 2), (9, 85, 0), (10, 86, 2), (11, 87, 0)] ?_
            repeat (first | (refine p0_ (v := ?_) (a' := ?_) HT_.out (by rfl) (by rfl) (by rfl) (by kernel_rfl) (by exact fun _ _ _ h => h) (Or.inl ⟨by rfl, ?_⟩) ?_ ?_; rotate_left; (· (intro w'; go_simp; with_reducible rfl)); rotate_left; (· (simp only [Act.put, List.setIfInBounds_toArray, List.set_cons_zero, List.set_cons_succ, i64_w, i32_w]; rfl))) | (refine p2_ (v := ?_) (a' := ?_) HT_.out HW_.out (by rfl) (by rfl) (by rfl) (by kernel_rfl) (by exact fun _ _ _ h => h) (Or.inl ⟨by rfl, ?_⟩) hHeld ?_ ?_; rotate_left; (· (rintro w' ⟨s0, s1, s2, s3, s4, s5, s6, s7, s8⟩; go_simp; with_reducible rfl)); rotate_left; (· (simp only [Act.put, List.setIfInBounds_toArray, List.set_cons_zero, List.set_cons_succ, i64_w, i32_w]; rfl))))
            with_reducible refine end_ ?_
            refine done_ (done_of HT_.out (by kernel_rfl)) ?_
            try go_wp2_with (first | ((with_reducible refine gate_dst (N := 57) rfl ?_); refine wpList_load_row (P := Try.prog) rfl _ _ rfl gb161 ?hx _ _ _ _ (by (with_reducible repeat first | apply bN | apply bd | apply ba); with_reducible exact BK161.out) Try.underlying39 rfl (by kernel_rfl) ?_; (case hx => first | rfl | (go_simp; done))))
            go_ret
            exact ⟨by first | rfl | (simp [errW_none, errW_some] <;> rfl) | (simp [*, errW_none, errW_some] <;> rfl), by repeat (first | (with_reducible first | exact HB.out | apply wa | apply wN | apply wd | refine ws ?_ GE161.out | refine ws ?_ GE163.out) | exact HB.out)⟩
          rw [if_pos c45] at H
          have c45b0 : (((rd_T84 l0_7 t165).f1) == (rd ((rd_T143 l0_15 a1).f0) ((rd_T141 l0_16 a1).f1))) = true := beq_iff_eq.mpr c45
          have c45b1 : (((rd_T84 l0_7 t165).f1) != (rd ((rd_T143 l0_15 a1).f0) ((rd_T141 l0_16 a1).f1))) = false := bne_eq_false_iff_eq.mpr c45
          clear c45
          by_cases c46 : ((rd_T141 l0_16 a1).f2) = true
          rotate_left
          · rw [if_neg c46] at H
            have c46b0 : ((rd_T141 l0_16 a1).f2) = false := by simpa using c46
            clear c46
            obtain rfl := Option.some.inj H
            try go_wp2_with (first | ((with_reducible refine gate_dst (N := 57) rfl ?_); refine wpList_load_row (P := Try.prog) rfl _ _ rfl gb161 ?hx _ _ _ _ (by (with_reducible repeat first | apply bN | apply bd | apply ba); with_reducible exact BK161.out) Try.underlying39 rfl (by kernel_rfl) ?_; (case hx => first | rfl | (go_simp; done))))
            have n0_ := Aside0.mk (bd BK161.out)
            have n1_ := Aside0.mk (bd BK163.out)
            have n2_ := Aside0.mk (wd HB.out)
            clear BK161
            clear BK163
            clear HB
            have BK161 := n0_
            have BK163 := n1_
            have HB := n2_
            clear n0_ n1_ n2_
            have p170 : 0 ≤ (t165 : Int) := of_decide_eq_true (by first | (with_reducible assumption) | assumption)
            have q170 : t165 < (l0_7.length : Int) := of_decide_eq_true (by first | (with_reducible assumption) | assumption)
            obtain ⟨ad170, e170, hx170_0, hx170_1, hx170_2, hx170_3⟩ := at_T84 HR0_7.out t165 p170 q170
            have hw170_3 := hx170_3
            have hw170_2 := hx170_2
            have hw170_1 := hx170_1
            have hw170_0 := hx170_0
            cases e170
            replace hx170_0 := (HB.out.cell (World.block_lt_of_cell? w _ hx170_0)).trans hx170_0
            replace hx170_1 := (HB.out.cell (World.block_lt_of_cell? w _ hx170_1)).trans hx170_1
            replace hx170_2 := (HB.out.cell (World.block_lt_of_cell? w _ hx170_2)).trans hx170_2
            replace hx170_3 := (HB.out.cell (World.block_lt_of_cell? w _ hx170_3)).trans hx170_3
            replace p170 := eq_true p170
            replace q170 := eq_true q170
            have p171 : 0 ≤ (((rd_T141 l0_16 a1).f1) : Int) := of_decide_eq_true (by first | (with_reducible assumption) | assumption)
            have q171 : ((rd_T141 l0_16 a1).f1) < (((rd_T143 l0_15 a1).f0).length : Int) := of_decide_eq_true (by first | (with_reducible assumption) | assumption)
            obtain ⟨ad171, e171, hx171_0⟩ := Kd.at_int HR164_0.out ((rd_T141 l0_16 a1).f1) p171 q171
            have hw171_0 := hx171_0
            cases e171
            replace hx171_0 := (HB.out.cell (World.block_lt_of_cell? w _ hx171_0)).trans hx171_0
            replace p171 := eq_true p171
            replace q171 := eq_true q171
            refine start_ (n := 12) (S := fun w' => w'.cell? ⟨gb161, 7, none⟩ = some (.slice (some ad170) l0_7.length c0_7) ∧ w'.cell? ⟨gb163, 0, none⟩ = some (.int .i64 ((rd_T141 l0_16 a1).f0)) ∧ w'.cell? ⟨gb163, 1, none⟩ = some (.int .i64 ((rd_T141 l0_16 a1).f1)) ∧ w'.cell? ⟨gb163, 2, none⟩ = some (.bool ((rd_T141 l0_16 a1).f2)) ∧ w'.cell? (ad170.add ((t165).toNat * 4)) = some (.int .i64 ((rd_T84 l0_7 t165).f0)) ∧ w'.cell? ⟨(ad170.add ((t165).toNat * 4)).block, (ad170.add ((t165).toNat * 4)).off + 1, none⟩ = some (.int .i64 ((rd_T84 l0_7 t165).f1)) ∧ w'.cell? ⟨(ad170.add ((t165).toNat * 4)).block, (ad170.add ((t165).toNat * 4)).off + 2, none⟩ = some (.int .i64 ((rd_T84 l0_7 t165).f2)) ∧ w'.cell? ⟨(ad170.add ((t165).toNat * 4)).block, (ad170.add ((t165).toNat * 4)).off + 3, none⟩ = some (.bool ((rd_T84 l0_7 t165).f3)) ∧ w'.cell? (ad171.add (((rd_T141 l0_16 a1).f1)).toNat) = some (.int .i64 (rd ((rd_T143 l0_15 a1).f0) ((rd_T141 l0_16 a1).f1)))) (ds := []) #[false, false, false, false, false, false, false, false, false, false, false, false] (by kernel_rfl) rfl rfl ⟨(bc BK161.out 7).trans rfl, (bc BK163.out 0).trans rfl, (bc BK163.out 1).trans rfl, (bc BK163.out 2).trans rfl, ((HB.out.cell (World.block_lt_of_cell? w _ hw170_0)).trans hw170_0), ((HB.out.cell (World.block_lt_of_cell? w _ hw170_1)).trans hw170_1), ((HB.out.cell (World.block_lt_of_cell? w _ hw170_2)).trans hw170_2), ((HB.out.cell (World.block_lt_of_cell? w _ hw170_3)).trans hw170_3), ((HB.out.cell (World.block_lt_of_cell? w _ hw171_0)).trans hw171_0)⟩ (fun hHeld => ?_); refine with_tabW spec_l21Job.tab11 spec_l21Job.bits11 (fun HT_ HW_ => ?_)
            generalize wr.drew = w59 at BK161 BK163 HB hx170_0 hx170_1 hx170_2 hx170_3 hx171_0 hHeld ⊢
            refine plan_ [(0, 76, 0), (2, 78, 0), (6, 82, 0), (7, 83, 0), (1, 77, 2), (3, 79, 0), (4, 80, 0), (5, 81, 2), (8, 84, 2), (9, 85, 0), (10, 86, 2), (11, 87, 0)] ?_
            repeat (first | (refine p0_ (v := ?_) (a' := ?_) HT_.out (by rfl) (by rfl) (by rfl) (by kernel_rfl) (by exact fun _ _ _ h => h) (Or.inl ⟨by rfl, ?_⟩) ?_ ?_; rotate_left; (· (intro w'; go_simp; with_reducible rfl)); rotate_left; (· (simp only [Act.put, List.setIfInBounds_toArray, List.set_cons_zero, List.set_cons_succ, i64_w, i32_w]; rfl))) | (refine p2_ (v := ?_) (a' := ?_) HT_.out HW_.out (by rfl) (by rfl) (by rfl) (by kernel_rfl) (by exact fun _ _ _ h => h) (Or.inl ⟨by rfl, ?_⟩) hHeld ?_ ?_; rotate_left; (· (rintro w' ⟨s0, s1, s2, s3, s4, s5, s6, s7, s8⟩; go_simp; with_reducible rfl)); rotate_left; (· (simp only [Act.put, List.setIfInBounds_toArray, List.set_cons_zero, List.set_cons_succ, i64_w, i32_w]; rfl))))
            with_reducible refine end_ ?_
            refine done_ (done_of HT_.out (by kernel_rfl)) ?_
            have hnb60 := NB163_161.out
            have hnc60 := NB161_163.out
            have hcz61_0 : w59.cell? ⟨gb163, 0, none⟩ = some (.int .i64 ((rd_T141 l0_16 a1).f0)) := (bc BK163.out 0).trans rfl
            have hcz61_1 : w59.cell? ⟨gb163, 1, none⟩ = some (.int .i64 ((rd_T141 l0_16 a1).f1)) := (bc BK163.out 1).trans rfl
            have hcz61_2 : w59.cell? ⟨gb163, 2, none⟩ = some (.bool ((rd_T141 l0_16 a1).f2)) := (bc BK163.out 2).trans rfl
            have hfz61_0 := bz BK163.out 0
            have hfz61_1 := bz BK163.out 1
            have hfz61_2 := bz BK163.out 2
            have hcz62_7 : w59.cell? ⟨gb161, 7, none⟩ = some (.slice (some ad170) l0_7.length c0_7) := (bc BK161.out 7).trans rfl
            have hcz62_13 : w59.cell? ⟨gb161, 13, none⟩ = some (.int .i64 a0_13) := (bc BK161.out 13).trans rfl
            have hcz62_15 : w59.cell? ⟨gb161, 15, none⟩ = some (.slice (some ad164) l0_15.length c0_15) := (bc BK161.out 15).trans rfl
            have hcz62_16 : w59.cell? ⟨gb161, 16, none⟩ = some (.slice (some ad162) l0_16.length c0_16) := (bc BK161.out 16).trans rfl
            have p174 : 0 ≤ (t165 : Int) := of_decide_eq_true (by first | (with_reducible assumption) | assumption)
            have q174 : t165 < (l0_7.length : Int) := of_decide_eq_true (by first | (with_reducible assumption) | assumption)
            obtain ⟨ad174, e174, hx174_0, hx174_1, hx174_2, hx174_3⟩ := at_T84 HR0_7.out t165 p174 q174
            obtain rfl : ad170 = ad174 := (by injection e174)
            replace hx174_0 := (HB.out.cell (World.block_lt_of_cell? w _ hx174_0)).trans hx174_0
            replace hx174_1 := (HB.out.cell (World.block_lt_of_cell? w _ hx174_1)).trans hx174_1
            replace hx174_2 := (HB.out.cell (World.block_lt_of_cell? w _ hx174_2)).trans hx174_2
            replace hx174_3 := (HB.out.cell (World.block_lt_of_cell? w _ hx174_3)).trans hx174_3
            replace p174 := eq_true p174
            replace q174 := eq_true q174
            try go_wp2_with (first | ((with_reducible refine gate_dst (N := 57) rfl ?_); refine wpList_load_row (P := Try.prog) rfl _ _ rfl gb161 ?hx _ _ _ _ (by (with_reducible repeat first | apply bN | apply bd | apply ba); with_reducible exact BK161.out) Try.underlying39 rfl (by kernel_rfl) ?_; (case hx => first | rfl | (go_simp; done))))
            go_ret
            exact ⟨by first | rfl | (simp [errW_none, errW_some] <;> rfl) | (simp [*, errW_none, errW_some] <;> rfl), by repeat (first | (with_reducible first | exact HB.out | apply wa | apply wN | apply wd | refine ws ?_ GE161.out | refine ws ?_ GE163.out) | exact HB.out)⟩
          rw [if_pos c46] at H
          have c46b0 : ((rd_T141 l0_16 a1).f2) = true := c46
          clear c46
          by_cases c47 : ((rd_T141 l0_16 a1).f1) < a0_13
          rotate_left
          · rw [if_neg c47] at H
            have c47b0 : decide (((rd_T141 l0_16 a1).f1) < a0_13) = false := decide_eq_false c47
            clear c47
            obtain rfl := Option.some.inj H
            try go_wp2_with (first | ((with_reducible refine gate_dst (N := 57) rfl ?_); refine wpList_load_row (P := Try.prog) rfl _ _ rfl gb161 ?hx _ _ _ _ (by (with_reducible repeat first | apply bN | apply bd | apply ba); with_reducible exact BK161.out) Try.underlying39 rfl (by kernel_rfl) ?_; (case hx => first | rfl | (go_simp; done))))
            have n0_ := Aside0.mk (bd BK161.out)
            have n1_ := Aside0.mk (bd BK163.out)
            have n2_ := Aside0.mk (wd HB.out)
            clear BK161
            clear BK163
            clear HB
            have BK161 := n0_
            have BK163 := n1_
            have HB := n2_
            clear n0_ n1_ n2_
            have p170 : 0 ≤ (t165 : Int) := of_decide_eq_true (by first | (with_reducible assumption) | assumption)
            have q170 : t165 < (l0_7.length : Int) := of_decide_eq_true (by first | (with_reducible assumption) | assumption)
            obtain ⟨ad170, e170, hx170_0, hx170_1, hx170_2, hx170_3⟩ := at_T84 HR0_7.out t165 p170 q170
            have hw170_3 := hx170_3
            have hw170_2 := hx170_2
            have hw170_1 := hx170_1
            have hw170_0 := hx170_0
            cases e170
            replace hx170_0 := (HB.out.cell (World.block_lt_of_cell? w _ hx170_0)).trans hx170_0
            replace hx170_1 := (HB.out.cell (World.block_lt_of_cell? w _ hx170_1)).trans hx170_1
            replace hx170_2 := (HB.out.cell (World.block_lt_of_cell? w _ hx170_2)).trans hx170_2
            replace hx170_3 := (HB.out.cell (World.block_lt_of_cell? w _ hx170_3)).trans hx170_3
            replace p170 := eq_true p170
            replace q170 := eq_true q170
            have p171 : 0 ≤ (((rd_T141 l0_16 a1).f1) : Int) := of_decide_eq_true (by first | (with_reducible assumption) | assumption)
            have q171 : ((rd_T141 l0_16 a1).f1) < (((rd_T143 l0_15 a1).f0).length : Int) := of_decide_eq_true (by first | (with_reducible assumption) | assumption)
            obtain ⟨ad171, e171, hx171_0⟩ := Kd.at_int HR164_0.out ((rd_T141 l0_16 a1).f1) p171 q171
            have hw171_0 := hx171_0
            cases e171
            replace hx171_0 := (HB.out.cell (World.block_lt_of_cell? w _ hx171_0)).trans hx171_0
            replace p171 := eq_true p171
            replace q171 := eq_true q171
            refine start_ (n := 12) (S := fun w' => w'.cell? ⟨gb161, 7, none⟩ = some (.slice (some ad170) l0_7.length c0_7) ∧ w'.cell? ⟨gb163, 0, none⟩ = some (.int .i64 ((rd_T141 l0_16 a1).f0)) ∧ w'.cell? ⟨gb163, 1, none⟩ = some (.int .i64 ((rd_T141 l0_16 a1).f1)) ∧ w'.cell? ⟨gb163, 2, none⟩ = some (.bool ((rd_T141 l0_16 a1).f2)) ∧ w'.cell? (ad170.add ((t165).toNat * 4)) = some (.int .i64 ((rd_T84 l0_7 t165).f0)) ∧ w'.cell? ⟨(ad170.add ((t165).toNat * 4)).block, (ad170.add ((t165).toNat * 4)).off + 1, none⟩ = some (.int .i64 ((rd_T84 l0_7 t165).f1)) ∧ w'.cell? ⟨(ad170.add ((t165).toNat * 4)).block, (ad170.add ((t165).toNat * 4)).off + 2, none⟩ = some (.int .i64 ((rd_T84 l0_7 t165).f2)) ∧ w'.cell? ⟨(ad170.add ((t165).toNat * 4)).block, (ad170.add ((t165).toNat * 4)).off + 3, none⟩ = some (.bool ((rd_T84 l0_7 t165).f3)) ∧ w'.cell? (ad171.add (((rd_T141 l0_16 a1).f1)).toNat) = some (.int .i64 (rd ((rd_T143 l0_15 a1).f0) ((rd_T141 l0_16 a1).f1)))) (ds := []) #[false, false, false, false, false, false, false, false, false, false, false, false] (by kernel_rfl) rfl rfl ⟨(bc BK161.out 7).trans rfl, (bc BK163.out 0).trans rfl, (bc BK163.out 1).trans rfl, (bc BK163.out 2).trans rfl, ((HB.out.cell (World.block_lt_of_cell? w _ hw170_0)).trans hw170_0), ((HB.out.cell (World.block_lt_of_cell? w _ hw170_1)).trans hw170_1), ((HB.out.cell (World.block_lt_of_cell? w _ hw170_2)).trans hw170_2), ((HB.out.cell (World.block_lt_of_cell? w _ hw170_3)).trans hw170_3), ((HB.out.cell (World.block_lt_of_cell? w _ hw171_0)).trans hw171_0)⟩ (fun hHeld => ?_); refine with_tabW spec_l21Job.tab11 spec_l21Job.bits11 (fun HT_ HW_ => ?_)
            generalize wr.drew = w55 at BK161 BK163 HB hx170_0 hx170_1 hx170_2 hx170_3 hx171_0 hHeld ⊢
            refine plan_ [(0, 76, 0), (2, 78, 0), (6, 82, 0), (7, 83, 0), (1, 77, 2), (3, 79, 0), (4, 80, 0), (5, 81, 2), (8, 84, 2), (9, 85, 0), (10, 86, 2), (11, 87, 0)] ?_
            repeat (first | (refine p0_ (v := ?_) (a' := ?_) HT_.out (by rfl) (by rfl) (by rfl) (by kernel_rfl) (by exact fun _ _ _ h => h) (Or.inl ⟨by rfl, ?_⟩) ?_ ?_; rotate_left; (· (intro w'; go_simp; with_reducible rfl)); rotate_left; (· (simp only [Act.put, List.setIfInBounds_toArray, List.set_cons_zero, List.set_cons_succ, i64_w, i32_w]; rfl))) | (refine p2_ (v := ?_) (a' := ?_) HT_.out HW_.out (by rfl) (by rfl) (by rfl) (by kernel_rfl) (by exact fun _ _ _ h => h) (Or.inl ⟨by rfl, ?_⟩) hHeld ?_ ?_; rotate_left; (· (rintro w' ⟨s0, s1, s2, s3, s4, s5, s6, s7, s8⟩; go_simp; with_reducible rfl)); rotate_left; (· (simp only [Act.put, List.setIfInBounds_toArray, List.set_cons_zero, List.set_cons_succ, i64_w, i32_w]; rfl))))
            with_reducible refine end_ ?_
            refine done_ (done_of HT_.out (by kernel_rfl)) ?_
            have hnb56 := NB163_161.out
            have hnc56 := NB161_163.out
            have hcz57_0 : w55.cell? ⟨gb163, 0, none⟩ = some (.int .i64 ((rd_T141 l0_16 a1).f0)) := (bc BK163.out 0).trans rfl
            have hcz57_1 : w55.cell? ⟨gb163, 1, none⟩ = some (.int .i64 ((rd_T141 l0_16 a1).f1)) := (bc BK163.out 1).trans rfl
            have hcz57_2 : w55.cell? ⟨gb163, 2, none⟩ = some (.bool ((rd_T141 l0_16 a1).f2)) := (bc BK163.out 2).trans rfl
            have hfz57_0 := bz BK163.out 0
            have hfz57_1 := bz BK163.out 1
            have hfz57_2 := bz BK163.out 2
            try go_wp2_with (first | ((with_reducible refine gate_dst (N := 57) rfl ?_); refine wpList_load_row (P := Try.prog) rfl _ _ rfl gb161 ?hx _ _ _ _ (by (with_reducible repeat first | apply bN | apply bd | apply ba); with_reducible exact BK161.out) Try.underlying39 rfl (by kernel_rfl) ?_; (case hx => first | rfl | (go_simp; done))))
            have n0_ := Aside0.mk (bd BK161.out)
            have n1_ := Aside0.mk (bd BK163.out)
            have n2_ := Aside0.mk (wd HB.out)
            clear BK161
            clear BK163
            clear HB
            have BK161 := n0_
            have BK163 := n1_
            have HB := n2_
            clear n0_ n1_ n2_
            refine start_ (n := 22) (S := fun w' => w'.cell? ⟨gb163, 0, none⟩ = some (.int .i64 ((rd_T141 l0_16 a1).f0)) ∧ w'.cell? ⟨gb163, 1, none⟩ = some (.int .i64 ((rd_T141 l0_16 a1).f1)) ∧ w'.cell? ⟨gb163, 2, none⟩ = some (.bool ((rd_T141 l0_16 a1).f2)) ∧ w'.cell? ⟨gb161, 13, none⟩ = some (.int .i64 a0_13)) (ds := []) #[false, false, false, false, false, false, false, false, false, false, false, false, false, false, false, false, false, false, false, false, false, false] (by kernel_rfl) rfl rfl ⟨(bc BK163.out 0).trans rfl, (bc BK163.out 1).trans rfl, (bc BK163.out 2).trans rfl, (bc BK161.out 13).trans rfl⟩ (fun hHeld => ?_); refine with_tabW spec_l21Job.tab14 spec_l21Job.bits14 (fun HT_ HW_ => ?_)
            generalize w55.drew = w58 at BK161 BK163 HB hHeld ⊢
            refine plan_ [(0, 90, 0), (2, 92, 0), (3, 93, 0), (1, 91, 2), (4, 94, 2), (5, 95, 0), (6, 96, 0), (7, 97, 1), (8, 98, 1), (9, 99, 1), (10, 100, 1), (11, 101, 1), (12, 102, 1), (13, 103, 1), (14, 104, 1), (15, 105, 1), (16, 106, 1), (17, 107, 1), (18, 108, 1), (19, 109, 1), (20, 110, 0), (21, 4, 0)] ?_
            repeat (first | (refine p0_ (v := ?_) (a' := ?_) HT_.out (by rfl) (by rfl) (by rfl) (by kernel_rfl) (by exact fun _ _ _ h => h) (Or.inl ⟨by rfl, ?_⟩) ?_ ?_; rotate_left; (· (intro w'; go_simp; with_reducible rfl)); rotate_left; (· (simp only [Act.put, List.setIfInBounds_toArray, List.set_cons_zero, List.set_cons_succ, i64_w, i32_w]; rfl))) | (refine p1_ (a' := ?_) HT_.out (by rfl) (by rfl) (by rfl) (by kernel_rfl) (by exact fun _ _ _ h => h) (Or.inr ⟨by rfl, rfl⟩) ?_ ?_; rotate_left; (· (simp only [Act.put, List.setIfInBounds_toArray, List.set_cons_zero, List.set_cons_succ, i64_w, i32_w]; rfl))) | (refine p2_ (v := ?_) (a' := ?_) HT_.out HW_.out (by rfl) (by rfl) (by rfl) (by kernel_rfl) (by exact fun _ _ _ h => h) (Or.inl ⟨by rfl, ?_⟩) hHeld ?_ ?_; rotate_left; (· (rintro w' ⟨s0, s1, s2, s3⟩; go_simp; with_reducible rfl)); rotate_left; (· (simp only [Act.put, List.setIfInBounds_toArray, List.set_cons_zero, List.set_cons_succ, i64_w, i32_w]; rfl))))
            with_reducible refine end_ ?_
            refine done_ (done_of HT_.out (by kernel_rfl)) ?_
            try go_wp2_with (first | ((with_reducible refine gate_dst (N := 57) rfl ?_); refine wpList_load_row (P := Try.prog) rfl _ _ rfl gb161 ?hx _ _ _ _ (by (with_reducible repeat first | apply bN | apply bd | apply ba); with_reducible exact BK161.out) Try.underlying39 rfl (by kernel_rfl) ?_; (case hx => first | rfl | (go_simp; done))))
            go_ret
            exact ⟨by first | rfl | (simp [errW_none, errW_some] <;> rfl) | (simp [*, errW_none, errW_some] <;> rfl), by repeat (first | (with_reducible first | exact HB.out | apply wa | apply wN | apply wd | refine ws ?_ GE161.out | refine ws ?_ GE163.out) | exact HB.out)⟩
          rw [if_pos c47] at H
          have c47b0 : decide (((rd_T141 l0_16 a1).f1) < a0_13) = true := decide_eq_true c47
          clear c47
          obtain ⟨ji48, hji48⟩ : ∃ j_ : Int, (wrap64 (((rd_T141 l0_16 a1).f1) + 1)) = j_ := ⟨_, rfl⟩
          replace H : (if 0 ≤ (ji48) then (if (ji48) < (((rd_T143 l0_15 a1).f0).length : Int) then (some (((rd_T84 l0_7 t165).f2) == (rd ((rd_T143 l0_15 a1).f0) (ji48)))) else (none)) else (none)) = some r := by first | (rw [hji48] at H; exact H) | (simp only [hji48] at H ⊢; exact H)
          have hji48w : (IntKind.i64.wrap (((rd_T141 l0_16 a1).f1) + 1)) = ji48 := (i64_w _).trans hji48
          by_cases c49 : 0 ≤ (ji48)
          rotate_left
          · rw [if_neg c49] at H
            exact absurd H (by simp)
          rw [if_pos c49] at H
          have c49b0 : decide (0 ≤ (ji48)) = true := decide_eq_true c49
          clear c49
          by_cases c50 : (ji48) < (((rd_T143 l0_15 a1).f0).length : Int)
          rotate_left
          · rw [if_neg c50] at H
            exact absurd H (by simp)
          rw [if_pos c50] at H
          have c50b0 : decide ((ji48) < (((rd_T143 l0_15 a1).f0).length : Int)) = true := decide_eq_true c50
          clear c50
          obtain rfl := Option.some.inj H
          try go_wp2_with (first | ((with_reducible refine gate_dst (N := 57) rfl ?_); refine wpList_load_row (P := Try.prog) rfl _ _ rfl gb161 ?hx _ _ _ _ (by (with_reducible repeat first | apply bN | apply bd | apply ba); with_reducible exact BK161.out) Try.underlying39 rfl (by kernel_rfl) ?_; (case hx => first | rfl | (go_simp; done))))
          have n0_ := Aside0.mk (bd BK161.out)
          have n1_ := Aside0.mk (bd BK163.out)
          have n2_ := Aside0.mk (wd HB.out)
          clear BK161
          clear BK163
          clear HB
          have BK161 := n0_
          have BK163 := n1_
          have HB := n2_
          clear n0_ n1_ n2_
          have p170 : 0 ≤ (t165 : Int) := of_decide_eq_true (by first | (with_reducible assumption) | assumption)
          have q170 : t165 < (l0_7.length : Int) := of_decide_eq_true (by first | (with_reducible assumption) | assumption)
          obtain ⟨ad170, e170, hx170_0, hx170_1, hx170_2, hx170_3⟩ := at_T84 HR0_7.out t165 p170 q170
          have hw170_3 := hx170_3
          have hw170_2 := hx170_2
          have hw170_1 := hx170_1
          have hw170_0 := hx170_0
          cases e170
          replace hx170_0 := (HB.out.cell (World.block_lt_of_cell? w _ hx170_0)).trans hx170_0
          replace hx170_1 := (HB.out.cell (World.block_lt_of_cell? w _ hx170_1)).trans hx170_1
          replace hx170_2 := (HB.out.cell (World.block_lt_of_cell? w _ hx170_2)).trans hx170_2
          replace hx170_3 := (HB.out.cell (World.block_lt_of_cell? w _ hx170_3)).trans hx170_3
          replace p170 := eq_true p170
          replace q170 := eq_true q170
          have p171 : 0 ≤ (((rd_T141 l0_16 a1).f1) : Int) := of_decide_eq_true (by first | (with_reducible assumption) | assumption)
          have q171 : ((rd_T141 l0_16 a1).f1) < (((rd_T143 l0_15 a1).f0).length : Int) := of_decide_eq_true (by first | (with_reducible assumption) | assumption)
          obtain ⟨ad171, e171, hx171_0⟩ := Kd.at_int HR164_0.out ((rd_T141 l0_16 a1).f1) p171 q171
          have hw171_0 := hx171_0
          cases e171
          replace hx171_0 := (HB.out.cell (World.block_lt_of_cell? w _ hx171_0)).trans hx171_0
          replace p171 := eq_true p171
          replace q171 := eq_true q171
          refine start_ (n := 12) (S := fun w' => w'.cell? ⟨gb161, 7, none⟩ = some (.slice (some ad170) l0_7.length c0_7) ∧ w'.cell? ⟨gb163, 0, none⟩ = some (.int .i64 ((rd_T141 l0_16 a1).f0)) ∧ w'.cell? ⟨gb163, 1, none⟩ = some (.int .i64 ((rd_T141 l0_16 a1).f1)) ∧ w'.cell? ⟨gb163, 2, none⟩ = some (.bool ((rd_T141 l0_16 a1).f2)) ∧ w'.cell? (ad170.add ((t165).toNat * 4)) = some (.int .i64 ((rd_T84 l0_7 t165).f0)) ∧ w'.cell? ⟨(ad170.add ((t165).toNat * 4)).block, (ad170.add ((t165).toNat * 4)).off + 1, none⟩ = some (.int .i64 ((rd_T84 l0_7 t165).f1)) ∧ w'.cell? ⟨(ad170.add ((t165).toNat * 4)).block, (ad170.add ((t165).toNat * 4)).off + 2, none⟩ = some (.int .i64 ((rd_T84 l0_7 t165).f2)) ∧ w'.cell? ⟨(ad170.add ((t165).toNat * 4)).block, (ad170.add ((t165).toNat * 4)).off + 3, none⟩ = some (.bool ((rd_T84 l0_7 t165).f3)) ∧ w'.cell? (ad171.add (((rd_T141 l0_16 a1).f1)).toNat) = some (.int .i64 (rd ((rd_T143 l0_15 a1).f0) ((rd_T141 l0_16 a1).f1)))) (ds := []) #[false, false, false, false, false, false, false, false, false, false, false, false] (by kernel_rfl) rfl rfl ⟨(bc BK161.out 7).trans rfl, (bc BK163.out 0).trans rfl, (bc BK163.out 1).trans rfl, (bc BK163.out 2).trans rfl, ((HB.out.cell (World.block_lt_of_cell? w _ hw170_0)).trans hw170_0), ((HB.out.cell (World.block_lt_of_cell? w _ hw170_1)).trans hw170_1), ((HB.out.cell (World.block_lt_of_cell? w _ hw170_2)).trans hw170_2), ((HB.out.cell (World.block_lt_of_cell? w _ hw170_3)).trans hw170_3), ((HB.out.cell (World.block_lt_of_cell? w _ hw171_0)).trans hw171_0)⟩ (fun hHeld => ?_); refine with_tabW spec_l21Job.tab11 spec_l21Job.bits11 (fun HT_ HW_ => ?_)
          generalize wr.drew = w51 at BK161 BK163 HB hx170_0 hx170_1 hx170_2 hx170_3 hx171_0 hHeld ⊢
          refine plan_ [(0, 76, 0), (2, 78, 0), (6, 82, 0), (7, 83, 0), (1, 77, 2), (3, 79, 0), (4, 80, 0), (5, 81, 2), (8, 84, 2), (9, 85, 0), (10, 86, 2), (11, 87, 0)] ?_
          repeat (first | (refine p0_ (v := ?_) (a' := ?_) HT_.out (by rfl) (by rfl) (by rfl) (by kernel_rfl) (by exact fun _ _ _ h => h) (Or.inl ⟨by rfl, ?_⟩) ?_ ?_; rotate_left; (· (intro w'; go_simp; with_reducible rfl)); rotate_left; (· (simp only [Act.put, List.setIfInBounds_toArray, List.set_cons_zero, List.set_cons_succ, i64_w, i32_w]; rfl))) | (refine p2_ (v := ?_) (a' := ?_) HT_.out HW_.out (by rfl) (by rfl) (by rfl) (by kernel_rfl) (by exact fun _ _ _ h => h) (Or.inl ⟨by rfl, ?_⟩) hHeld ?_ ?_; rotate_left; (· (rintro w' ⟨s0, s1, s2, s3, s4, s5, s6, s7, s8⟩; go_simp; with_reducible rfl)); rotate_left; (· (simp only [Act.put, List.setIfInBounds_toArray, List.set_cons_zero, List.set_cons_succ, i64_w, i32_w]; rfl))))
          with_reducible refine end_ ?_
          refine done_ (done_of HT_.out (by kernel_rfl)) ?_
          have hnb52 := NB163_161.out
          have hnc52 := NB161_163.out
          have hcz53_0 : w51.cell? ⟨gb163, 0, none⟩ = some (.int .i64 ((rd_T141 l0_16 a1).f0)) := (bc BK163.out 0).trans rfl
          have hcz53_1 : w51.cell? ⟨gb163, 1, none⟩ = some (.int .i64 ((rd_T141 l0_16 a1).f1)) := (bc BK163.out 1).trans rfl
          have hcz53_2 : w51.cell? ⟨gb163, 2, none⟩ = some (.bool ((rd_T141 l0_16 a1).f2)) := (bc BK163.out 2).trans rfl
          have hfz53_0 := bz BK163.out 0
          have hfz53_1 := bz BK163.out 1
          have hfz53_2 := bz BK163.out 2
          try go_wp2_with (first | ((with_reducible refine gate_dst (N := 57) rfl ?_); refine wpList_load_row (P := Try.prog) rfl _ _ rfl gb161 ?hx _ _ _ _ (by (with_reducible repeat first | apply bN | apply bd | apply ba); with_reducible exact BK161.out) Try.underlying39 rfl (by kernel_rfl) ?_; (case hx => first | rfl | (go_simp; done))))
          have n0_ := Aside0.mk (bd BK161.out)
          have n1_ := Aside0.mk (bd BK163.out)
          have n2_ := Aside0.mk (wd HB.out)
          clear BK161
          clear BK163
          clear HB
          have BK161 := n0_
          have BK163 := n1_
          have HB := n2_
          clear n0_ n1_ n2_
          have p172 : 0 ≤ (t165 : Int) := of_decide_eq_true (by first | (with_reducible assumption) | assumption)
          have q172 : t165 < (l0_7.length : Int) := of_decide_eq_true (by first | (with_reducible assumption) | assumption)
          obtain ⟨ad172, e172, hx172_0, hx172_1, hx172_2, hx172_3⟩ := at_T84 HR0_7.out t165 p172 q172
          have hw172_3 := hx172_3
          have hw172_2 := hx172_2
          have hw172_1 := hx172_1
          have hw172_0 := hx172_0
          obtain rfl : ad170 = ad172 := (by injection e172)
          replace hx172_0 := (HB.out.cell (World.block_lt_of_cell? w _ hx172_0)).trans hx172_0
          replace hx172_1 := (HB.out.cell (World.block_lt_of_cell? w _ hx172_1)).trans hx172_1
          replace hx172_2 := (HB.out.cell (World.block_lt_of_cell? w _ hx172_2)).trans hx172_2
          replace hx172_3 := (HB.out.cell (World.block_lt_of_cell? w _ hx172_3)).trans hx172_3
          replace p172 := eq_true p172
          replace q172 := eq_true q172
          have p173 : 0 ≤ ((ji48) : Int) := of_decide_eq_true (by first | (with_reducible assumption) | assumption)
          have q173 : (ji48) < (((rd_T143 l0_15 a1).f0).length : Int) := of_decide_eq_true (by first | (with_reducible assumption) | assumption)
          obtain ⟨ad173, e173, hx173_0⟩ := Kd.at_int HR164_0.out (ji48) p173 q173
          have hw173_0 := hx173_0
          obtain rfl : ad171 = ad173 := (by injection e173)
          replace hx173_0 := (HB.out.cell (World.block_lt_of_cell? w _ hx173_0)).trans hx173_0
          replace p173 := eq_true p173
          replace q173 := eq_true q173
          refine start_ (n := 22) (S := fun w' => w'.cell? ⟨gb163, 0, none⟩ = some (.int .i64 ((rd_T141 l0_16 a1).f0)) ∧ w'.cell? ⟨gb163, 1, none⟩ = some (.int .i64 ((rd_T141 l0_16 a1).f1)) ∧ w'.cell? ⟨gb163, 2, none⟩ = some (.bool ((rd_T141 l0_16 a1).f2)) ∧ w'.cell? ⟨gb161, 7, none⟩ = some (.slice (some ad170) l0_7.length c0_7) ∧ w'.cell? ⟨gb161, 13, none⟩ = some (.int .i64 a0_13) ∧ w'.cell? (ad170.add ((t165).toNat * 4)) = some (.int .i64 ((rd_T84 l0_7 t165).f0)) ∧ w'.cell? ⟨(ad170.add ((t165).toNat * 4)).block, (ad170.add ((t165).toNat * 4)).off + 1, none⟩ = some (.int .i64 ((rd_T84 l0_7 t165).f1)) ∧ w'.cell? ⟨(ad170.add ((t165).toNat * 4)).block, (ad170.add ((t165).toNat * 4)).off + 2, none⟩ = some (.int .i64 ((rd_T84 l0_7 t165).f2)) ∧ w'.cell? ⟨(ad170.add ((t165).toNat * 4)).block, (ad170.add ((t165).toNat * 4)).off + 3, none⟩ = some (.bool ((rd_T84 l0_7 t165).f3)) ∧ w'.cell? (ad171.add ((ji48)).toNat) = some (.int .i64 (rd ((rd_T143 l0_15 a1).f0) (ji48)))) (ds := []) #[false, false, false, false, false, false, false, false, false, false, false, false, false, false, false, false, false, false, false, false, false, false] (by kernel_rfl) rfl rfl ⟨(bc BK163.out 0).trans rfl, (bc BK163.out 1).trans rfl, (bc BK163.out 2).trans rfl, (bc BK161.out 7).trans rfl, (bc BK161.out 13).trans rfl, ((HB.out.cell (World.block_lt_of_cell? w _ hw172_0)).trans hw172_0), ((HB.out.cell (World.block_lt_of_cell? w _ hw172_1)).trans hw172_1), ((HB.out.cell (World.block_lt_of_cell? w _ hw172_2)).trans hw172_2), ((HB.out.cell (World.block_lt_of_cell? w _ hw172_3)).trans hw172_3), ((HB.out.cell (World.block_lt_of_cell? w _ hw173_0)).trans hw173_0)⟩ (fun hHeld => ?_); refine with_tabW spec_l21Job.tab14 spec_l21Job.bits14 (fun HT_ HW_ => ?_)
          generalize w51.drew = w54 at BK161 BK163 HB hx172_0 hx172_1 hx172_2 hx172_3 hx173_0 hHeld ⊢
          refine plan_ [(0, 90, 0), (2, 92, 0), (3, 93, 0), (1, 91, 2), (4, 94, 2), (5, 95, 0), (6, 96, 0), (7, 97, 0), (9, 99, 0), (13, 103, 0), (14, 104, 0), (8, 98, 2), (10, 100, 0), (11, 101, 0), (12, 102, 2), (15, 105, 2), (16, 106, 0), (17, 107, 0), (18, 108, 2), (19, 109, 0), (20, 110, 0), (21, 4, 0)] ?_
          repeat (first | (refine p0_ (v := ?_) (a' := ?_) HT_.out (by rfl) (by rfl) (by rfl) (by kernel_rfl) (by exact fun _ _ _ h => h) (Or.inl ⟨by rfl, ?_⟩) ?_ ?_; rotate_left; (· (intro w'; go_simp; with_reducible rfl)); rotate_left; (· (simp only [Act.put, List.setIfInBounds_toArray, List.set_cons_zero, List.set_cons_succ, i64_w, i32_w]; rfl))) | (refine p2_ (v := ?_) (a' := ?_) HT_.out HW_.out (by rfl) (by rfl) (by rfl) (by kernel_rfl) (by exact fun _ _ _ h => h) (Or.inl ⟨by rfl, ?_⟩) hHeld ?_ ?_; rotate_left; (· (rintro w' ⟨s0, s1, s2, s3, s4, s5, s6, s7, s8, s9⟩; go_simp; with_reducible rfl)); rotate_left; (· (simp only [Act.put, List.setIfInBounds_toArray, List.set_cons_zero, List.set_cons_succ, i64_w, i32_w]; rfl))))
          with_reducible refine end_ ?_
          refine done_ (done_of HT_.out (by kernel_rfl)) ?_
          try go_wp2_with (first | ((with_reducible refine gate_dst (N := 57) rfl ?_); refine wpList_load_row (P := Try.prog) rfl _ _ rfl gb161 ?hx _ _ _ _ (by (with_reducible repeat first | apply bN | apply bd | apply ba); with_reducible exact BK161.out) Try.underlying39 rfl (by kernel_rfl) ?_; (case hx => first | rfl | (go_simp; done))))
          go_ret
          exact ⟨by first | rfl | (simp [errW_none, errW_some] <;> rfl) | (simp only [← hji48]; first | rfl | (simp [errW_none, errW_some] <;> rfl)) | (simp [*, errW_none, errW_some] <;> rfl), by repeat (first | (with_reducible first | exact HB.out | apply wa | apply wN | apply wd | refine ws ?_ GE161.out | refine ws ?_ GE163.out) | exact HB.out)⟩

end Go.Proofs.Ytfinjkjnoobbjaa.MFnExactJobsOk
