/- Made by a program of this session (out of the kit's print, with hand-made contracts): what each Go function that the law reaches computes, and that the machine's call does so. -/
import Derived.Test.YtfinjkjnoobbjaaXFnTeamsMyReg
import Derived.Test.YtfinjkjnoobbjaaMFnTeamsx0
import Derived.Test.YtfinjkjnoobbjaaMFnTeamsx10
import Derived.Test.YtfinjkjnoobbjaaMFnTeamsx12
import Derived.Test.YtfinjkjnoobbjaaMFnTeamsx13
import Derived.Test.YtfinjkjnoobbjaaMFnTeamsx15
namespace Go.Proofs.Ytfinjkjnoobbjaa.MFnTeams
open Go.RowKit Go.Proofs.YtfinjkjnoobbjaaW.PrintWords Go.Proofs.YtfinjkjnoobbjaaW.PrintLast Go.Proofs.YtfinjkjnoobbjaaW.PrintMore Go.Proofs.Ytfinjkjnoobbjaa.MyReg
attribute [local go_sem] max2_int min2_int max_two min_two max_three min_three max_four min_four   -- for this text's walks alone
set_option linter.unusedVariables false
set_option linter.unusedSimpArgs false

/-! ### impl_RobotsOk: function 37 -/
mutual
def impl_RobotsOk.j0 : Nat → List (S84) → Bool → Int → Int → ByteArray → Option (Bool)
  | 0, _, _, _, _, _ => none
  | k + 1, x1, x14, x333000, x333001, x333002 => if x14 = true then (some false) else (impl_RobotsOk.l0 k x1 x1 (x1.length : Int) 0 x333000 x333001 x333002)
def impl_RobotsOk.l0 : Nat → List (S84) → List (S84) → Int → Int → Int → Int → ByteArray → Option (Bool)
  | 0, _, _, _, _, _, _, _ => none
  | k + 1, x1, x15, x16, x17, x333000, x333001, x333002 => if x17 < x16 then (if 0 ≤ x17 then (if x17 < (x15.length : Int) then (if ((rd_T84 x15 x17).f0) < 0 then (some false) else (if ((rd_T84 x15 x17).f0) > 99 then (some false) else (if x17 > 0 then (if 0 ≤ (wrap64 (x17 - 1)) then (if (wrap64 (x17 - 1)) < (x1.length : Int) then (if ((rd_T84 x1 (wrap64 (x17 - 1))).f0) ≥ ((rd_T84 x15 x17).f0) then (some false) else ((impl_isFree.f x333000 x333001 x333002 ((rd_T84 x15 x17).f1)).bind fun t338 => (if t338 = true then (if ((rd_T84 x15 x17).f2) = (-1) then (impl_RobotsOk.l0 k x1 x15 x16 (wrap64 (x17 + 1)) x333000 x333001 x333002) else ((impl_Beside.f k x333000 x333001 x333002 ((rd_T84 x15 x17).f1) ((rd_T84 x15 x17).f2)).bind fun t339 => (if t339 = true then (impl_RobotsOk.l0 k x1 x15 x16 (wrap64 (x17 + 1)) x333000 x333001 x333002) else (some false)))) else (some false)))) else (none)) else (none)) else ((impl_isFree.f x333000 x333001 x333002 ((rd_T84 x15 x17).f1)).bind fun t340 => (if t340 = true then (if ((rd_T84 x15 x17).f2) = (-1) then (impl_RobotsOk.l0 k x1 x15 x16 (wrap64 (x17 + 1)) x333000 x333001 x333002) else ((impl_Beside.f k x333000 x333001 x333002 ((rd_T84 x15 x17).f1) ((rd_T84 x15 x17).f2)).bind fun t341 => (if t341 = true then (impl_RobotsOk.l0 k x1 x15 x16 (wrap64 (x17 + 1)) x333000 x333001 x333002) else (some false)))) else (some false)))))) else (none)) else (none)) else ((impl_areApart.f x1).bind fun t334 => (some t334))
end
def impl_RobotsOk.f (k : Nat) (a0_0 : Int) (a0_1 : Int) (a0_2 : ByteArray) (l1 : List (S84)) : Option (Bool) := (impl_GridOk.f k a0_0 a0_1 a0_2).bind fun t333 => (if t333 = true then (impl_RobotsOk.j0 k l1 (decide ((l1.length : Int) > 10)) a0_0 a0_1 a0_2) else (impl_RobotsOk.j0 k l1 true a0_0 a0_1 a0_2))
theorem impl_RobotsOk.mono_l : ∀ k, (∀ y0 y1 y2 y3 y4, LeO (impl_RobotsOk.j0 k y0 y1 y2 y3 y4) (impl_RobotsOk.j0 (k + 1) y0 y1 y2 y3 y4)) ∧ (∀ y0 y1 y2 y3 y4 y5 y6, LeO (impl_RobotsOk.l0 k y0 y1 y2 y3 y4 y5 y6) (impl_RobotsOk.l0 (k + 1) y0 y1 y2 y3 y4 y5 y6))
  | 0 => ⟨fun _ _ _ _ _ r h => by simp [impl_RobotsOk.j0] at h, fun _ _ _ _ _ _ _ r h => by simp [impl_RobotsOk.l0] at h⟩
  | k + 1 => by
    obtain ⟨ih0, ih1⟩ := impl_RobotsOk.mono_l k
    refine ⟨?_, ?_⟩
    · intro y0 y1 y2 y3 y4
      unfold impl_RobotsOk.j0
      repeat' first
      | (with_reducible exact ih0 _ _ _ _ _)
      | (with_reducible exact ih1 _ _ _ _ _ _ _)
      | (with_reducible exact impl_Beside.mono _ _ _ _ _ _)
      | (with_reducible exact impl_GridOk.mono _ _ _ _)
      | (with_reducible exact LeO.refl _)
      | (with_reducible exact LeO.none _)
      | (with_reducible refine LeO.ite ?_ ?_)
      | (with_reducible refine LeO.bind ?_ (fun _ => ?_))
      | exact ih0 _ _ _ _ _
      | exact ih1 _ _ _ _ _ _ _
      | exact impl_Beside.mono _ _ _ _ _ _
      | exact impl_GridOk.mono _ _ _ _
      | exact LeO.none _
      | refine LeO.ite ?_ ?_
      | refine LeO.bind ?_ (fun _ => ?_)
    · intro y0 y1 y2 y3 y4 y5 y6
      unfold impl_RobotsOk.l0
      repeat' first
      | (with_reducible exact ih0 _ _ _ _ _)
      | (with_reducible exact ih1 _ _ _ _ _ _ _)
      | (with_reducible exact impl_Beside.mono _ _ _ _ _ _)
      | (with_reducible exact impl_GridOk.mono _ _ _ _)
      | (with_reducible exact LeO.refl _)
      | (with_reducible exact LeO.none _)
      | (with_reducible refine LeO.ite ?_ ?_)
      | (with_reducible refine LeO.bind ?_ (fun _ => ?_))
      | exact ih0 _ _ _ _ _
      | exact ih1 _ _ _ _ _ _ _
      | exact impl_Beside.mono _ _ _ _ _ _
      | exact impl_GridOk.mono _ _ _ _
      | exact LeO.none _
      | refine LeO.ite ?_ ?_
      | refine LeO.bind ?_ (fun _ => ?_)
theorem impl_RobotsOk.mono : ∀ a0 a1 a2 a3 k, LeO (impl_RobotsOk.f k a0 a1 a2 a3) (impl_RobotsOk.f (k + 1) a0 a1 a2 a3) := by
  intro a0 a1 a2 a3 k
  obtain ⟨ih0, ih1⟩ := impl_RobotsOk.mono_l k
  unfold impl_RobotsOk.f
  repeat' first
      | (with_reducible exact ih0 _ _ _ _ _)
      | (with_reducible exact ih1 _ _ _ _ _ _ _)
      | (with_reducible exact impl_Beside.mono _ _ _ _ _ _)
      | (with_reducible exact impl_GridOk.mono _ _ _ _)
      | (with_reducible exact LeO.refl _)
      | (with_reducible exact LeO.none _)
      | (with_reducible refine LeO.ite ?_ ?_)
      | (with_reducible refine LeO.bind ?_ (fun _ => ?_))
      | exact ih0 _ _ _ _ _
      | exact ih1 _ _ _ _ _ _ _
      | exact impl_Beside.mono _ _ _ _ _ _
      | exact impl_GridOk.mono _ _ _ _
      | exact LeO.none _
      | refine LeO.ite ?_ ?_
      | refine LeO.bind ?_ (fun _ => ?_)
def impl_RobotsOk.T6 : Bool × List (List Nat × List Nat) := (true, [([], []), ([0], [0]), ([1], [1]), ([2], [2]), ([3], [3]), ([4, 3], [3, 4]), ([5, 3], [3, 5]), ([3, 6], [3, 6]), ([7, 3], [7]), ([8], [8]), ([9, 8], [8, 9]), ([10, 8, 8], [8, 10]), ([11], [11]), ([11], [11]), ([13, 11], [11, 13]), ([12, 14, 11], [11, 12, 14]), ([15, 11], [11, 15]), ([16, 11], [11, 16]), ([11], [11]), ([18, 11], [11, 18]), ([17, 19, 11], [11, 17, 19]), ([11, 20, 8], [8, 11, 20]), ([8, 21], [8, 21]), ([22, 11], [22]), ([23], [23]), ([23], [23]), ([25, 23], [23, 25]), ([24, 26, 23, 23], [23, 24, 26]), ([27, 23], [23, 27]), ([23, 28], [23, 28]), ([29, 27], [29]), ([30], [30]), ([31, 30], [30, 31]), ([32, 30], [30, 32]), ([33, 30, 30], [30, 33]), ([34], [34]), ([34], [34]), ([36, 34], [34, 36]), ([34], [34]), ([38, 34], [34, 38]), ([35, 37, 39, 34, 34], [34, 35, 37, 39]), ([40, 34], [34, 40]), ([34, 41, 30], [30, 34, 41]), ([30, 42], [30, 42])])
def impl_RobotsOk.B6 : List Nat := [0, 1, 3, 7, 15, 31, 63, 127, 255, 511, 1023, 2047, 4095, 4095, 12287, 32767, 65535, 131071, 4095, 266239, 1048575, 2097151, 4194303, 8388607, 16777215, 16777215, 50331647, 134217727, 268435455, 536870911, 1073741823, 2147483647, 4294967295, 8589934591, 17179869183, 34359738367, 34359738367, 103079215103, 34359738367, 309237645311, 1099511627775, 2199023255551, 4398046511103, 8796093022207]
theorem impl_RobotsOk.tab6 : rtab .any (opsOf Try.f37 6) = impl_RobotsOk.T6 := by kernel_rfl
theorem impl_RobotsOk.bits6 : waitsOk impl_RobotsOk.T6.2 impl_RobotsOk.B6 = true := by kernel_rfl
set_option maxHeartbeats 8000000 in
set_option maxRecDepth 100000 in
theorem impl_RobotsOk.calls (k : Nat) (a0_0 : Int) (a0_1 : Int) (a0_2 : ByteArray) (A1 : Option Addr) (c1 : Nat) (l1 : List (S84)) (r : Bool) (w : World) (hr1 : Kd.C k84 w A1 l1.length l1) (hc1 : l1.length ≤ c1) (h : impl_RobotsOk.f k a0_0 a0_1 a0_2 l1 = some r) :
    Calls Try.prog 37 #[.agg #[.int .i64 a0_0, .int .i64 a0_1, .string a0_2], .slice A1 l1.length c1] w fun e w' => e = .returned (.bool r) ∧ Below w.heap.size w w' := by
  have hu27 := Try.underlying27
  have hu84 := Try.underlying84
  have HR1 := Aside0.mk hr1
  have HC1 := Aside0.mk hc1
  clear hr1 hc1
  have HB := Aside0.mk (Below.refl w.heap.size w)
  have H : ((impl_GridOk.f k a0_0 a0_1 a0_2).bind fun t333 => (if t333 = true then (impl_RobotsOk.j0 k l1 (decide ((l1.length : Int) > 10)) a0_0 a0_1 a0_2) else (impl_RobotsOk.j0 k l1 true a0_0 a0_1 a0_2))) = some r := h
  clear h
  have HC3 := Aside0.mk H
  clear H
  go_enter Try.func37, Try.ntmps37
  go_upto_region 1 with (first | ((with_reducible refine gate_dst (N := 2) rfl ?_); (try (refine gate_guard (by rfl) ?_; dsimp only)); refine box_event ?hg (N := 2) ?hd (cs := #[.int .i64 a0_0, .int .i64 a0_1, .string a0_2]) (t := 27) ?hr ?_; (case hd => rfl); (case hg => rfl); (case hr => first | (go_simp; done) | (go_simp; rfl)); intro gb332 hg w4 hbox hb; have n0_ := Aside0.mk (below_step (by repeat (first | (with_reducible first | exact HB.out | apply wa | apply wN | apply wd) | exact HB.out)) hb); have n1_ := Aside0.mk (hbox); have n2_ := Aside0.mk ((by rw [hg]; exact (below_size (by repeat (first | (with_reducible first | exact HB.out | apply wa | apply wN | apply wd) | exact HB.out))) : w.heap.size ≤ gb332)); have n3_ := n2_; clear HB; have HB := n0_; have BK332 := n1_; have GW332 := n2_; have GE332 := n3_; clear n0_ n1_ n2_ n3_; clear hb hbox hg))
  (try simp only [Act.put, List.setIfInBounds_toArray, List.set_cons_zero, List.set_cons_succ])
  go_cut [14] (fun v14 wc => ∃ (kq : Nat) (x14_2 : Bool), v14 = .bool x14_2 ∧ Aside0 (impl_RobotsOk.j0 kq l1 x14_2 a0_0 a0_1 a0_2 = some r) ∧ Aside0 (kq ≤ k) ∧ Aside0 (wc.heap[gb332]? = some (.cells #[.int .i64 a0_0, .int .i64 a0_1, .string a0_2] 27 (0, 0))) ∧ Aside0 (Below w.heap.size w wc))
  case first =>
    have H := HC3.out
    clear HC3
    replace H := Option.bind_eq_some_iff.mp H
    obtain ⟨t333, A50, H⟩ := H
    replace H : (if t333 = true then (impl_RobotsOk.j0 k l1 (decide ((l1.length : Int) > 10)) a0_0 a0_1 a0_2) else (impl_RobotsOk.j0 k l1 true a0_0 a0_1 a0_2)) = some r := H
    have A5 := Aside0.mk A50
    clear A50
    by_cases c6 : t333 = true
    · subst c6
      have H1 : (impl_RobotsOk.j0 k l1 (decide ((l1.length : Int) > 10)) a0_0 a0_1 a0_2) = some r := by rw [if_pos rfl] at H; exact H
      clear H
      have H := H1
      clear H1
      have H' := Aside0.mk H
      clear H
      have hcz7_0 : w4.cell? ⟨gb332, 0, none⟩ = some (.int .i64 a0_0) := (bc BK332.out 0).trans rfl
      have hcz7_1 : w4.cell? ⟨gb332, 1, none⟩ = some (.int .i64 a0_1) := (bc BK332.out 1).trans rfl
      have hcz7_2 : w4.cell? ⟨gb332, 2, none⟩ = some (.string a0_2) := (bc BK332.out 2).trans rfl
      go_wp2_with (first | ((with_reducible refine gate_callee (f := 94) rfl ?_); refine goesL_ (some 8) rfl rfl Try.func94 (by kernel_rfl) rfl #[.agg #[.int .i64 a0_0, .int .i64 a0_1, .string a0_2]] rfl (by (try simp only [List.map_toArray, List.map_cons, List.map_nil]); first | done | rfl | (simp only [List.length_drop, List.length_take]; rfl)) ?_; (with_reducible refine (impl_GridOk.calls k a0_0 a0_1 a0_2 true _ A5.out).mono ?_); rintro e w8 ⟨rfl, hb⟩; refine ⟨_, rfl, ?_⟩; have n0_ := Aside0.mk (bb (g := gb332) (by first | (with_reducible exact BK332.out) | (with_reducible exact bN BK332.out _) | (with_reducible exact bd BK332.out) | ((with_reducible repeat first | apply bN | apply bd | apply ba); exact BK332.out)) hb); have n1_ := Aside0.mk (below_step (by repeat (first | (with_reducible first | exact HB.out | apply wa | apply wN | apply wd | refine ws ?_ GE332.out) | exact HB.out)) hb); clear BK332; clear HB; have BK332 := n0_; have HB := n1_; clear n0_ n1_; (try clear hb); (try clear hb2); (try clear hk); (try clear hi)))
      go_meet
      case rel => exact ⟨_, (decide ((l1.length : Int) > 10)), (by first | rfl | (simp; done) | (simp [*]; done)), H', ⟨by first | omega | exact Nat.le_refl _⟩, ⟨by (with_reducible repeat first | apply bN | apply bd | apply ba); exact BK332.out⟩, ⟨by repeat (first | (with_reducible first | exact HB.out | apply wa | apply wN | apply wd | refine ws ?_ GE332.out) | exact HB.out)⟩⟩
    replace c6 := Bool.eq_false_iff.mpr c6
    subst c6
    have H1 : (impl_RobotsOk.j0 k l1 true a0_0 a0_1 a0_2) = some r := by rw [if_neg (show ¬ (false = true) by decide)] at H; exact H
    clear H
    have H := H1
    clear H1
    have H' := Aside0.mk H
    clear H
    have hcz9_0 : w4.cell? ⟨gb332, 0, none⟩ = some (.int .i64 a0_0) := (bc BK332.out 0).trans rfl
    have hcz9_1 : w4.cell? ⟨gb332, 1, none⟩ = some (.int .i64 a0_1) := (bc BK332.out 1).trans rfl
    have hcz9_2 : w4.cell? ⟨gb332, 2, none⟩ = some (.string a0_2) := (bc BK332.out 2).trans rfl
    go_wp2_with (first | ((with_reducible refine gate_callee (f := 94) rfl ?_); refine goesL_ (some 8) rfl rfl Try.func94 (by kernel_rfl) rfl #[.agg #[.int .i64 a0_0, .int .i64 a0_1, .string a0_2]] rfl (by (try simp only [List.map_toArray, List.map_cons, List.map_nil]); first | done | rfl | (simp only [List.length_drop, List.length_take]; rfl)) ?_; (with_reducible refine (impl_GridOk.calls k a0_0 a0_1 a0_2 false _ A5.out).mono ?_); rintro e w10 ⟨rfl, hb⟩; refine ⟨_, rfl, ?_⟩; have n0_ := Aside0.mk (bb (g := gb332) (by first | (with_reducible exact BK332.out) | (with_reducible exact bN BK332.out _) | (with_reducible exact bd BK332.out) | ((with_reducible repeat first | apply bN | apply bd | apply ba); exact BK332.out)) hb); have n1_ := Aside0.mk (below_step (by repeat (first | (with_reducible first | exact HB.out | apply wa | apply wN | apply wd | refine ws ?_ GE332.out) | exact HB.out)) hb); clear BK332; clear HB; have BK332 := n0_; have HB := n1_; clear n0_ n1_; (try clear hb); (try clear hb2); (try clear hk); (try clear hi)))
    go_meet
    case rel => exact ⟨_, (true), (by first | rfl | (simp; done) | (simp [*]; done)), H', ⟨by first | omega | exact Nat.le_refl _⟩, ⟨by (with_reducible repeat first | apply bN | apply bd | apply ba); exact BK332.out⟩, ⟨by repeat (first | (with_reducible first | exact HB.out | apply wa | apply wN | apply wd | refine ws ?_ GE332.out) | exact HB.out)⟩⟩
  case rest =>
    clear HC3
    try clear c1
    try clear p2
    try clear c3
    try clear c6
    try clear c9
    try clear hcz7_0
    try clear hcz7_1
    try clear hcz7_2
    try clear hcz9_0
    try clear hcz9_1
    try clear hcz9_2
    obtain ⟨kq, x14_2, rfl, HA, HJ2, BK332, HB⟩ := hcut
    cases kq with
    | zero => exact absurd HA.out (by simp [impl_RobotsOk.j0])
    | succ kj2 =>
      have H := HA.out
      clear HA
      simp only [impl_RobotsOk.j0] at H
      by_cases c11 : x14_2 = true
      · subst c11
        have H1 : (some false) = some r := by rw [if_pos rfl] at H; exact H
        clear H
        have H := H1
        clear H1
        obtain rfl := Option.some.inj H
        go_wp2
        go_ret
        exact ⟨by first | rfl | (simp [errW_none, errW_some] <;> rfl) | (simp [*, errW_none, errW_some] <;> rfl), by repeat (first | (with_reducible first | exact HB.out | apply wa | apply wN | apply wd | refine ws ?_ GE332.out) | exact HB.out)⟩
      replace c11 := Bool.eq_false_iff.mpr c11
      subst c11
      have H1 : (impl_RobotsOk.l0 kj2 l1 l1 (l1.length : Int) 0 a0_0 a0_1 a0_2) = some r := by rw [if_neg (show ¬ (false = true) by decide)] at H; exact H
      clear H
      have H := H1
      clear H1
      have H' := Aside0.mk H
      clear H
      go_wp2
      go_loopg [17] kj2 (fun kq v17 w' => ∃ (x17_2 : Int), v17 = .int .i64 x17_2 ∧ Aside0 (impl_RobotsOk.l0 kq l1 l1 (l1.length : Int) x17_2 a0_0 a0_1 a0_2 = some r) ∧ Aside0 (kq ≤ kj2) ∧ Aside0 (w'.heap[gb332]? = some (.cells #[.int .i64 a0_0, .int .i64 a0_1, .string a0_2] 27 (0, 0))) ∧ Aside0 (Below w.heap.size w w'))
      case atStart => exact ⟨(0), (by first | rfl | (simp; done) | (simp [*]; done)), H', ⟨Nat.le_refl _⟩, ⟨by (with_reducible repeat first | apply bN | apply bd | apply ba); exact BK332.out⟩, ⟨by repeat (first | (with_reducible first | exact HB.out | apply wa | apply wN | apply wd | refine ws ?_ GE332.out) | exact HB.out)⟩⟩
      case round =>
        clear H'
        try clear c1
        try clear p2
        try clear c3
        try clear c6
        try clear c9
        try clear c11
        try clear hcz7_0
        try clear hcz7_1
        try clear hcz7_2
        try clear hcz9_0
        try clear hcz9_1
        try clear hcz9_2
        try clear p2
        obtain ⟨x17_2, rfl, HA, HK2, BK332, HB⟩ := hrel
        cases gk with
        | zero => exact absurd HA.out (by simp [impl_RobotsOk.l0])
        | succ k2 =>
          have H := HA.out
          clear HA
          simp only [impl_RobotsOk.l0] at H
          by_cases c12 : x17_2 < (l1.length : Int)
          rotate_left
          · rw [if_neg c12] at H
            have c12b0 : decide (x17_2 < (l1.length : Int)) = false := decide_eq_false c12
            clear c12
            replace H := Option.bind_eq_some_iff.mp H
            obtain ⟨t334, A990, H⟩ := H
            replace H : (some t334) = some r := H
            have A99 := Aside0.mk A990
            clear A990
            obtain rfl := Option.some.inj H
            go_wp2_with (first | ((with_reducible refine gate_callee (f := 80) rfl ?_); refine goesL_ (some 68) rfl rfl Try.func80 (by kernel_rfl) rfl #[.slice A1 l1.length c1] rfl (by (try simp only [List.map_toArray, List.map_cons, List.map_nil]); first | done | rfl | (simp only [List.length_drop, List.length_take]; rfl)) ?_; (with_reducible refine (impl_areApart.calls _ _ l1 t334 _ ?side1 ?side2 A99.out).mono ?_); (case side1 => repeat (first | exact (Kd.C_below HR1.out HB.out) | (with_reducible refine Kd.Ca ?_ _) | (with_reducible refine Kd.Cn ?_ _) | (with_reducible refine Kd.Cd ?_))); (case side2 => exact HC1.out); rintro e w100 ⟨rfl, hb⟩; refine ⟨_, rfl, ?_⟩; have n0_ := Aside0.mk (bb (g := gb332) (by first | (with_reducible exact BK332.out) | (with_reducible exact bN BK332.out _) | (with_reducible exact bd BK332.out) | ((with_reducible repeat first | apply bN | apply bd | apply ba); exact BK332.out)) hb); have n1_ := Aside0.mk (below_step (by repeat (first | (with_reducible first | exact HB.out | apply wa | apply wN | apply wd | refine ws ?_ GE332.out) | exact HB.out)) hb); clear BK332; clear HB; have BK332 := n0_; have HB := n1_; clear n0_ n1_; (try clear hb); (try clear hb2); (try clear hk); (try clear hi)))
            go_ret
            exact ⟨by first | rfl | (simp [errW_none, errW_some] <;> rfl) | (simp [*, errW_none, errW_some] <;> rfl), by repeat (first | (with_reducible first | exact HB.out | apply wa | apply wN | apply wd | refine ws ?_ GE332.out) | exact HB.out)⟩
          rw [if_pos c12] at H
          have c12b0 : decide (x17_2 < (l1.length : Int)) = true := decide_eq_true c12
          clear c12
          by_cases c13 : 0 ≤ x17_2
          rotate_left
          · rw [if_neg c13] at H
            exact absurd H (by simp)
          rw [if_pos c13] at H
          have c13b0 : decide (0 ≤ x17_2) = true := decide_eq_true c13
          clear c13
          by_cases c14 : x17_2 < (l1.length : Int)
          rotate_left
          · rw [if_neg c14] at H
            exact absurd H (by simp)
          rw [if_pos c14] at H
          have c14b0 : decide (x17_2 < (l1.length : Int)) = true := decide_eq_true c14
          clear c14
          by_cases c15 : ((rd_T84 l1 x17_2).f0) < 0
          · rw [if_pos c15] at H
            have c15b0 : decide (((rd_T84 l1 x17_2).f0) < 0) = true := decide_eq_true c15
            clear c15
            obtain rfl := Option.some.inj H
            have p335 : 0 ≤ (x17_2 : Int) := of_decide_eq_true (by first | (with_reducible assumption) | assumption)
            have q335 : x17_2 < (l1.length : Int) := of_decide_eq_true (by first | (with_reducible assumption) | assumption)
            obtain ⟨ad335, e335, hx335_0, hx335_1, hx335_2, hx335_3⟩ := at_T84 HR1.out x17_2 p335 q335
            cases e335
            replace hx335_0 := (HB.out.cell (World.block_lt_of_cell? w _ hx335_0)).trans hx335_0
            replace hx335_1 := (HB.out.cell (World.block_lt_of_cell? w _ hx335_1)).trans hx335_1
            replace hx335_2 := (HB.out.cell (World.block_lt_of_cell? w _ hx335_2)).trans hx335_2
            replace hx335_3 := (HB.out.cell (World.block_lt_of_cell? w _ hx335_3)).trans hx335_3
            replace p335 := eq_true p335
            replace q335 := eq_true q335
            try go_wp2_with (first | ((with_reducible refine gate_dst (N := 6) rfl ?_); (try (refine gate_guard (by rfl) ?_; dsimp only)); refine box_event ?hg (N := 6) ?hd (cs := #[.int .i64 0, .int .i64 0, .int .i64 0, .bool false]) (t := 84) ?hr ?_; (case hd => rfl); (case hg => rfl); (case hr => first | (go_simp; done) | (go_simp; rfl)); intro gb336 hg w16 hbox hb; have n0_ := Aside0.mk (bb (g := gb332) (by first | (with_reducible exact BK332.out) | (with_reducible exact bN BK332.out _) | (with_reducible exact bd BK332.out) | ((with_reducible repeat first | apply bN | apply bd | apply ba); exact BK332.out)) hb); have n1_ := Aside0.mk (below_step (by repeat (first | (with_reducible first | exact HB.out | apply wa | apply wN | apply wd | refine ws ?_ GE332.out) | exact HB.out)) hb); have n2_ := Aside0.mk (hbox); have n3_ := Aside0.mk ((by rw [hg]; exact (below_size (by repeat (first | (with_reducible first | exact HB.out | apply wa | apply wN | apply wd | refine ws ?_ GE332.out) | exact HB.out))) : w.heap.size ≤ gb336)); have n4_ := n3_; have n5_ := Aside0.mk ((by rw [hg]; exact Nat.ne_of_lt (blk_lt (g := gb332) (by (with_reducible repeat first | apply bN | apply bd | apply ba); exact BK332.out)) : gb332 ≠ gb336)); have n6_ := Aside0.mk ((by rw [hg]; exact Nat.ne_of_gt (blk_lt (g := gb332) (by (with_reducible repeat first | apply bN | apply bd | apply ba); exact BK332.out)) : gb336 ≠ gb332)); clear BK332; clear HB; have BK332 := n0_; have HB := n1_; have BK336 := n2_; have GW336 := n3_; have GE336 := n4_; have NB332_336 := n5_; have NB336_332 := n6_; clear n0_ n1_ n2_ n3_ n4_ n5_ n6_; clear hb hbox hg; have hnb17 := NB336_332.out; have hnc17 := NB332_336.out; have hcz18_0 : w16.cell? ⟨gb336, 0, none⟩ = some (.int .i64 0) := (bc BK336.out 0).trans rfl; have hcz18_1 : w16.cell? ⟨gb336, 1, none⟩ = some (.int .i64 0) := (bc BK336.out 1).trans rfl; have hcz18_2 : w16.cell? ⟨gb336, 2, none⟩ = some (.int .i64 0) := (bc BK336.out 2).trans rfl; have hcz18_3 : w16.cell? ⟨gb336, 3, none⟩ = some (.bool false) := (bc BK336.out 3).trans rfl; have hfz18_0 := bz BK336.out 0; have hfz18_1 := bz BK336.out 1; have hfz18_2 := bz BK336.out 2; have hfz18_3 := bz BK336.out 3))
            have n0_ : Aside0 (((((w16.setCell ⟨gb336, 0, none⟩ (.int .i64 ((rd_T84 l1 x17_2).f0))).setCell ⟨gb336, 1, none⟩ (.int .i64 ((rd_T84 l1 x17_2).f1))).setCell ⟨gb336, 2, none⟩ (.int .i64 ((rd_T84 l1 x17_2).f2))).setCell ⟨gb336, 3, none⟩ (.bool ((rd_T84 l1 x17_2).f3))).heap[gb332]? = some (.cells #[.int .i64 a0_0, .int .i64 a0_1, .string a0_2] 27 (0, 0))) := ⟨by (with_reducible repeat first | apply bN | apply bd | apply ba); refine blk_far ?_ NB332_336.out _; (with_reducible repeat first | apply bN | apply bd | apply ba); refine blk_far ?_ NB332_336.out _; (with_reducible repeat first | apply bN | apply bd | apply ba); refine blk_far ?_ NB332_336.out _; (with_reducible repeat first | apply bN | apply bd | apply ba); refine blk_far ?_ NB332_336.out _; (with_reducible repeat first | apply bN | apply bd | apply ba); exact BK332.out⟩
            have n1_ : Aside0 (((((w16.setCell ⟨gb336, 0, none⟩ (.int .i64 ((rd_T84 l1 x17_2).f0))).setCell ⟨gb336, 1, none⟩ (.int .i64 ((rd_T84 l1 x17_2).f1))).setCell ⟨gb336, 2, none⟩ (.int .i64 ((rd_T84 l1 x17_2).f2))).setCell ⟨gb336, 3, none⟩ (.bool ((rd_T84 l1 x17_2).f3))).heap[gb336]? = some (.cells #[.int .i64 ((rd_T84 l1 x17_2).f0), .int .i64 ((rd_T84 l1 x17_2).f1), .int .i64 ((rd_T84 l1 x17_2).f2), .bool ((rd_T84 l1 x17_2).f3)] 84 (0, 0))) := ⟨by (with_reducible repeat first | apply bN | apply bd | apply ba); refine blk_put (cs := #[.int .i64 ((rd_T84 l1 x17_2).f0), .int .i64 ((rd_T84 l1 x17_2).f1), .int .i64 ((rd_T84 l1 x17_2).f2), .bool false]) ?_ 3 _ rfl; (with_reducible repeat first | apply bN | apply bd | apply ba); refine blk_put (cs := #[.int .i64 ((rd_T84 l1 x17_2).f0), .int .i64 ((rd_T84 l1 x17_2).f1), .int .i64 0, .bool false]) ?_ 2 _ rfl; (with_reducible repeat first | apply bN | apply bd | apply ba); refine blk_put (cs := #[.int .i64 ((rd_T84 l1 x17_2).f0), .int .i64 0, .int .i64 0, .bool false]) ?_ 1 _ rfl; (with_reducible repeat first | apply bN | apply bd | apply ba); refine blk_put (cs := #[.int .i64 0, .int .i64 0, .int .i64 0, .bool false]) ?_ 0 _ rfl; (with_reducible repeat first | apply bN | apply bd | apply ba); exact BK336.out⟩
            have n2_ : Aside0 (Below w.heap.size w ((((w16.setCell ⟨gb336, 0, none⟩ (.int .i64 ((rd_T84 l1 x17_2).f0))).setCell ⟨gb336, 1, none⟩ (.int .i64 ((rd_T84 l1 x17_2).f1))).setCell ⟨gb336, 2, none⟩ (.int .i64 ((rd_T84 l1 x17_2).f2))).setCell ⟨gb336, 3, none⟩ (.bool ((rd_T84 l1 x17_2).f3)))) := ⟨by repeat (first | (with_reducible first | exact HB.out | apply wa | apply wN | apply wd | refine ws ?_ GE332.out | refine ws ?_ GE336.out) | exact HB.out)⟩
            (try clear BK332)
            (try clear BK336)
            (try clear HB)
            (first | (rw [show World.drewN ((((w16.setCell ⟨gb336, 0, none⟩ (.int .i64 ((rd_T84 l1 x17_2).f0))).setCell ⟨gb336, 1, none⟩ (.int .i64 ((rd_T84 l1 x17_2).f1))).setCell ⟨gb336, 2, none⟩ (.int .i64 ((rd_T84 l1 x17_2).f2))).setCell ⟨gb336, 3, none⟩ (.bool ((rd_T84 l1 x17_2).f3))) nd = World.drewN ((((w16.setCell ⟨gb336, 0, none⟩ (.int .i64 ((rd_T84 l1 x17_2).f0))).setCell ⟨gb336, 1, none⟩ (.int .i64 ((rd_T84 l1 x17_2).f1))).setCell ⟨gb336, 2, none⟩ (.int .i64 ((rd_T84 l1 x17_2).f2))).setCell ⟨gb336, 3, none⟩ (.bool ((rd_T84 l1 x17_2).f3))) nd from rfl]; have p0_ := Aside0.mk (bN n0_.out nd); have p1_ := Aside0.mk (bN n1_.out nd); have p2_ := Aside0.mk (wN n2_.out nd); generalize World.drewN ((((w16.setCell ⟨gb336, 0, none⟩ (.int .i64 ((rd_T84 l1 x17_2).f0))).setCell ⟨gb336, 1, none⟩ (.int .i64 ((rd_T84 l1 x17_2).f1))).setCell ⟨gb336, 2, none⟩ (.int .i64 ((rd_T84 l1 x17_2).f2))).setCell ⟨gb336, 3, none⟩ (.bool ((rd_T84 l1 x17_2).f3))) nd = w19 at p0_ p1_ p2_ ⊢; clear n0_ n1_ n2_; have n0_ := p0_; have n1_ := p1_; have n2_ := p2_; clear p0_ p1_ p2_) | generalize ((((w16.setCell ⟨gb336, 0, none⟩ (.int .i64 ((rd_T84 l1 x17_2).f0))).setCell ⟨gb336, 1, none⟩ (.int .i64 ((rd_T84 l1 x17_2).f1))).setCell ⟨gb336, 2, none⟩ (.int .i64 ((rd_T84 l1 x17_2).f2))).setCell ⟨gb336, 3, none⟩ (.bool ((rd_T84 l1 x17_2).f3))) = w19 at n0_ n1_ n2_ ⊢)
            have BK332 := n0_
            have BK336 := n1_
            have HB := n2_
            clear n0_ n1_ n2_
            have n0_ := Aside0.mk (bd BK332.out)
            have n1_ := Aside0.mk (bd BK336.out)
            have n2_ := Aside0.mk (wd HB.out)
            clear BK332
            clear BK336
            clear HB
            have BK332 := n0_
            have BK336 := n1_
            have HB := n2_
            clear n0_ n1_ n2_
            refine start_ (n := 44) (S := fun w' => w'.cell? ⟨gb336, 0, none⟩ = some (.int .i64 ((rd_T84 l1 x17_2).f0)) ∧ w'.cell? ⟨gb336, 1, none⟩ = some (.int .i64 ((rd_T84 l1 x17_2).f1)) ∧ w'.cell? ⟨gb336, 2, none⟩ = some (.int .i64 ((rd_T84 l1 x17_2).f2)) ∧ w'.cell? ⟨gb336, 3, none⟩ = some (.bool ((rd_T84 l1 x17_2).f3))) (ds := []) #[false, false, false, false, false, false, false, false, false, false, false, false, false, false, false, false, false, false, false, false, false, false, false, false, false, false, false, false, false, false, false, false, false, false, false, false, false, false, false, false, false, false, false, false] (by kernel_rfl) rfl rfl ⟨(bc BK336.out 0).trans rfl, (bc BK336.out 1).trans rfl, (bc BK336.out 2).trans rfl, (bc BK336.out 3).trans rfl⟩ (fun hHeld => ?_); refine with_tabW impl_RobotsOk.tab6 impl_RobotsOk.bits6 (fun HT_ HW_ => ?_)
            generalize w19.drew = w20 at BK332 BK336 HB hHeld ⊢
            refine plan_ [(0, 22, 0), (1, 23, 2), (2, 24, 0), (3, 25, 0), (4, 26, 1), (5, 27, 1), (6, 28, 1), (7, 29, 0), (8, 30, 0), (9, 31, 1), (10, 32, 1), (11, 33, 1), (12, 34, 1), (13, 35, 1), (14, 36, 1), (15, 37, 1), (16, 38, 1), (17, 39, 1), (18, 40, 1), (19, 41, 1), (20, 42, 1), (21, 43, 1), (22, 44, 0), (23, 45, 0), (24, 46, 1), (25, 47, 1), (26, 48, 1), (27, 49, 1), (28, 50, 1), (29, 51, 0), (30, 52, 0), (31, 53, 1), (32, 54, 1), (33, 55, 1), (34, 56, 1), (35, 57, 1), (36, 58, 1), (37, 59, 1), (38, 60, 1), (39, 61, 1), (40, 62, 1), (41, 63, 1), (42, 64, 1), (43, 65, 0)] ?_
            repeat (first | (refine p0_ (v := ?_) (a' := ?_) HT_.out (by rfl) (by rfl) (by rfl) (by kernel_rfl) (by exact fun _ _ _ h => h) (Or.inl ⟨by rfl, ?_⟩) ?_ ?_; rotate_left; (· (intro w'; go_simp; with_reducible rfl)); rotate_left; (· (simp only [Act.put, List.setIfInBounds_toArray, List.set_cons_zero, List.set_cons_succ, i64_w, i32_w]; rfl))) | (refine p1_ (a' := ?_) HT_.out (by rfl) (by rfl) (by rfl) (by kernel_rfl) (by exact fun _ _ _ h => h) (Or.inr ⟨by rfl, rfl⟩) ?_ ?_; rotate_left; (· (simp only [Act.put, List.setIfInBounds_toArray, List.set_cons_zero, List.set_cons_succ, i64_w, i32_w]; rfl))) | (refine p2_ (v := ?_) (a' := ?_) HT_.out HW_.out (by rfl) (by rfl) (by rfl) (by kernel_rfl) (by exact fun _ _ _ h => h) (Or.inl ⟨by rfl, ?_⟩) hHeld ?_ ?_; rotate_left; (· (rintro w' ⟨s0, s1, s2, s3⟩; go_simp; with_reducible rfl)); rotate_left; (· (simp only [Act.put, List.setIfInBounds_toArray, List.set_cons_zero, List.set_cons_succ, i64_w, i32_w]; rfl))))
            with_reducible refine end_ ?_
            refine done_ (done_of HT_.out (by kernel_rfl)) ?_
            try go_wp2
            go_ret
            exact ⟨by first | rfl | (simp [errW_none, errW_some] <;> rfl) | (simp [*, errW_none, errW_some] <;> rfl), by repeat (first | (with_reducible first | exact HB.out | apply wa | apply wN | apply wd | refine ws ?_ GE332.out | refine ws ?_ GE336.out) | exact HB.out)⟩
          rw [if_neg c15] at H
          have c15b0 : decide (((rd_T84 l1 x17_2).f0) < 0) = false := decide_eq_false c15
          clear c15
          by_cases c21 : ((rd_T84 l1 x17_2).f0) > 99
          · rw [if_pos c21] at H
            have c21b0 : decide (99 < ((rd_T84 l1 x17_2).f0)) = true := decide_eq_true c21
            clear c21
            obtain rfl := Option.some.inj H
            have p335 : 0 ≤ (x17_2 : Int) := of_decide_eq_true (by first | (with_reducible assumption) | assumption)
            have q335 : x17_2 < (l1.length : Int) := of_decide_eq_true (by first | (with_reducible assumption) | assumption)
            obtain ⟨ad335, e335, hx335_0, hx335_1, hx335_2, hx335_3⟩ := at_T84 HR1.out x17_2 p335 q335
            cases e335
            replace hx335_0 := (HB.out.cell (World.block_lt_of_cell? w _ hx335_0)).trans hx335_0
            replace hx335_1 := (HB.out.cell (World.block_lt_of_cell? w _ hx335_1)).trans hx335_1
            replace hx335_2 := (HB.out.cell (World.block_lt_of_cell? w _ hx335_2)).trans hx335_2
            replace hx335_3 := (HB.out.cell (World.block_lt_of_cell? w _ hx335_3)).trans hx335_3
            replace p335 := eq_true p335
            replace q335 := eq_true q335
            try go_wp2_with (first | ((with_reducible refine gate_dst (N := 6) rfl ?_); (try (refine gate_guard (by rfl) ?_; dsimp only)); refine box_event ?hg (N := 6) ?hd (cs := #[.int .i64 0, .int .i64 0, .int .i64 0, .bool false]) (t := 84) ?hr ?_; (case hd => rfl); (case hg => rfl); (case hr => first | (go_simp; done) | (go_simp; rfl)); intro gb336 hg w22 hbox hb; have n0_ := Aside0.mk (bb (g := gb332) (by first | (with_reducible exact BK332.out) | (with_reducible exact bN BK332.out _) | (with_reducible exact bd BK332.out) | ((with_reducible repeat first | apply bN | apply bd | apply ba); exact BK332.out)) hb); have n1_ := Aside0.mk (below_step (by repeat (first | (with_reducible first | exact HB.out | apply wa | apply wN | apply wd | refine ws ?_ GE332.out) | exact HB.out)) hb); have n2_ := Aside0.mk (hbox); have n3_ := Aside0.mk ((by rw [hg]; exact (below_size (by repeat (first | (with_reducible first | exact HB.out | apply wa | apply wN | apply wd | refine ws ?_ GE332.out) | exact HB.out))) : w.heap.size ≤ gb336)); have n4_ := n3_; have n5_ := Aside0.mk ((by rw [hg]; exact Nat.ne_of_lt (blk_lt (g := gb332) (by (with_reducible repeat first | apply bN | apply bd | apply ba); exact BK332.out)) : gb332 ≠ gb336)); have n6_ := Aside0.mk ((by rw [hg]; exact Nat.ne_of_gt (blk_lt (g := gb332) (by (with_reducible repeat first | apply bN | apply bd | apply ba); exact BK332.out)) : gb336 ≠ gb332)); clear BK332; clear HB; have BK332 := n0_; have HB := n1_; have BK336 := n2_; have GW336 := n3_; have GE336 := n4_; have NB332_336 := n5_; have NB336_332 := n6_; clear n0_ n1_ n2_ n3_ n4_ n5_ n6_; clear hb hbox hg; have hnb23 := NB336_332.out; have hnc23 := NB332_336.out; have hcz24_0 : w22.cell? ⟨gb336, 0, none⟩ = some (.int .i64 0) := (bc BK336.out 0).trans rfl; have hcz24_1 : w22.cell? ⟨gb336, 1, none⟩ = some (.int .i64 0) := (bc BK336.out 1).trans rfl; have hcz24_2 : w22.cell? ⟨gb336, 2, none⟩ = some (.int .i64 0) := (bc BK336.out 2).trans rfl; have hcz24_3 : w22.cell? ⟨gb336, 3, none⟩ = some (.bool false) := (bc BK336.out 3).trans rfl; have hfz24_0 := bz BK336.out 0; have hfz24_1 := bz BK336.out 1; have hfz24_2 := bz BK336.out 2; have hfz24_3 := bz BK336.out 3))
            have n0_ : Aside0 (((((w22.setCell ⟨gb336, 0, none⟩ (.int .i64 ((rd_T84 l1 x17_2).f0))).setCell ⟨gb336, 1, none⟩ (.int .i64 ((rd_T84 l1 x17_2).f1))).setCell ⟨gb336, 2, none⟩ (.int .i64 ((rd_T84 l1 x17_2).f2))).setCell ⟨gb336, 3, none⟩ (.bool ((rd_T84 l1 x17_2).f3))).heap[gb332]? = some (.cells #[.int .i64 a0_0, .int .i64 a0_1, .string a0_2] 27 (0, 0))) := ⟨by (with_reducible repeat first | apply bN | apply bd | apply ba); refine blk_far ?_ NB332_336.out _; (with_reducible repeat first | apply bN | apply bd | apply ba); refine blk_far ?_ NB332_336.out _; (with_reducible repeat first | apply bN | apply bd | apply ba); refine blk_far ?_ NB332_336.out _; (with_reducible repeat first | apply bN | apply bd | apply ba); refine blk_far ?_ NB332_336.out _; (with_reducible repeat first | apply bN | apply bd | apply ba); exact BK332.out⟩
            have n1_ : Aside0 (((((w22.setCell ⟨gb336, 0, none⟩ (.int .i64 ((rd_T84 l1 x17_2).f0))).setCell ⟨gb336, 1, none⟩ (.int .i64 ((rd_T84 l1 x17_2).f1))).setCell ⟨gb336, 2, none⟩ (.int .i64 ((rd_T84 l1 x17_2).f2))).setCell ⟨gb336, 3, none⟩ (.bool ((rd_T84 l1 x17_2).f3))).heap[gb336]? = some (.cells #[.int .i64 ((rd_T84 l1 x17_2).f0), .int .i64 ((rd_T84 l1 x17_2).f1), .int .i64 ((rd_T84 l1 x17_2).f2), .bool ((rd_T84 l1 x17_2).f3)] 84 (0, 0))) := ⟨by (with_reducible repeat first | apply bN | apply bd | apply ba); refine blk_put (cs := #[.int .i64 ((rd_T84 l1 x17_2).f0), .int .i64 ((rd_T84 l1 x17_2).f1), .int .i64 ((rd_T84 l1 x17_2).f2), .bool false]) ?_ 3 _ rfl; (with_reducible repeat first | apply bN | apply bd | apply ba); refine blk_put (cs := #[.int .i64 ((rd_T84 l1 x17_2).f0), .int .i64 ((rd_T84 l1 x17_2).f1), .int .i64 0, .bool false]) ?_ 2 _ rfl; (with_reducible repeat first | apply bN | apply bd | apply ba); refine blk_put (cs := #[.int .i64 ((rd_T84 l1 x17_2).f0), .int .i64 0, .int .i64 0, .bool false]) ?_ 1 _ rfl; (with_reducible repeat first | apply bN | apply bd | apply ba); refine blk_put (cs := #[.int .i64 0, .int .i64 0, .int .i64 0, .bool false]) ?_ 0 _ rfl; (with_reducible repeat first | apply bN | apply bd | apply ba); exact BK336.out⟩
            have n2_ : Aside0 (Below w.heap.size w ((((w22.setCell ⟨gb336, 0, none⟩ (.int .i64 ((rd_T84 l1 x17_2).f0))).setCell ⟨gb336, 1, none⟩ (.int .i64 ((rd_T84 l1 x17_2).f1))).setCell ⟨gb336, 2, none⟩ (.int .i64 ((rd_T84 l1 x17_2).f2))).setCell ⟨gb336, 3, none⟩ (.bool ((rd_T84 l1 x17_2).f3)))) := ⟨by repeat (first | (with_reducible first | exact HB.out | apply wa | apply wN | apply wd | refine ws ?_ GE332.out | refine ws ?_ GE336.out) | exact HB.out)⟩
            (try clear BK332)
            (try clear BK336)
            (try clear HB)
            (first | (rw [show World.drewN ((((w22.setCell ⟨gb336, 0, none⟩ (.int .i64 ((rd_T84 l1 x17_2).f0))).setCell ⟨gb336, 1, none⟩ (.int .i64 ((rd_T84 l1 x17_2).f1))).setCell ⟨gb336, 2, none⟩ (.int .i64 ((rd_T84 l1 x17_2).f2))).setCell ⟨gb336, 3, none⟩ (.bool ((rd_T84 l1 x17_2).f3))) nd = World.drewN ((((w22.setCell ⟨gb336, 0, none⟩ (.int .i64 ((rd_T84 l1 x17_2).f0))).setCell ⟨gb336, 1, none⟩ (.int .i64 ((rd_T84 l1 x17_2).f1))).setCell ⟨gb336, 2, none⟩ (.int .i64 ((rd_T84 l1 x17_2).f2))).setCell ⟨gb336, 3, none⟩ (.bool ((rd_T84 l1 x17_2).f3))) nd from rfl]; have p0_ := Aside0.mk (bN n0_.out nd); have p1_ := Aside0.mk (bN n1_.out nd); have p2_ := Aside0.mk (wN n2_.out nd); generalize World.drewN ((((w22.setCell ⟨gb336, 0, none⟩ (.int .i64 ((rd_T84 l1 x17_2).f0))).setCell ⟨gb336, 1, none⟩ (.int .i64 ((rd_T84 l1 x17_2).f1))).setCell ⟨gb336, 2, none⟩ (.int .i64 ((rd_T84 l1 x17_2).f2))).setCell ⟨gb336, 3, none⟩ (.bool ((rd_T84 l1 x17_2).f3))) nd = w25 at p0_ p1_ p2_ ⊢; clear n0_ n1_ n2_; have n0_ := p0_; have n1_ := p1_; have n2_ := p2_; clear p0_ p1_ p2_) | generalize ((((w22.setCell ⟨gb336, 0, none⟩ (.int .i64 ((rd_T84 l1 x17_2).f0))).setCell ⟨gb336, 1, none⟩ (.int .i64 ((rd_T84 l1 x17_2).f1))).setCell ⟨gb336, 2, none⟩ (.int .i64 ((rd_T84 l1 x17_2).f2))).setCell ⟨gb336, 3, none⟩ (.bool ((rd_T84 l1 x17_2).f3))) = w25 at n0_ n1_ n2_ ⊢)
            have BK332 := n0_
            have BK336 := n1_
            have HB := n2_
            clear n0_ n1_ n2_
            have n0_ := Aside0.mk (bd BK332.out)
            have n1_ := Aside0.mk (bd BK336.out)
            have n2_ := Aside0.mk (wd HB.out)
            clear BK332
            clear BK336
            clear HB
            have BK332 := n0_
            have BK336 := n1_
            have HB := n2_
            clear n0_ n1_ n2_
            refine start_ (n := 44) (S := fun w' => w'.cell? ⟨gb336, 0, none⟩ = some (.int .i64 ((rd_T84 l1 x17_2).f0)) ∧ w'.cell? ⟨gb336, 1, none⟩ = some (.int .i64 ((rd_T84 l1 x17_2).f1)) ∧ w'.cell? ⟨gb336, 2, none⟩ = some (.int .i64 ((rd_T84 l1 x17_2).f2)) ∧ w'.cell? ⟨gb336, 3, none⟩ = some (.bool ((rd_T84 l1 x17_2).f3))) (ds := []) #[false, false, false, false, false, false, false, false, false, false, false, false, false, false, false, false, false, false, false, false, false, false, false, false, false, false, false, false, false, false, false, false, false, false, false, false, false, false, false, false, false, false, false, false] (by kernel_rfl) rfl rfl ⟨(bc BK336.out 0).trans rfl, (bc BK336.out 1).trans rfl, (bc BK336.out 2).trans rfl, (bc BK336.out 3).trans rfl⟩ (fun hHeld => ?_); refine with_tabW impl_RobotsOk.tab6 impl_RobotsOk.bits6 (fun HT_ HW_ => ?_)
            generalize w25.drew = w26 at BK332 BK336 HB hHeld ⊢
            refine plan_ [(0, 22, 0), (1, 23, 2), (2, 24, 0), (3, 25, 0), (4, 26, 0), (5, 27, 2), (6, 28, 0), (7, 29, 0), (8, 30, 0), (9, 31, 1), (10, 32, 1), (11, 33, 1), (12, 34, 1), (13, 35, 1), (14, 36, 1), (15, 37, 1), (16, 38, 1), (17, 39, 1), (18, 40, 1), (19, 41, 1), (20, 42, 1), (21, 43, 1), (22, 44, 0), (23, 45, 0), (24, 46, 1), (25, 47, 1), (26, 48, 1), (27, 49, 1), (28, 50, 1), (29, 51, 0), (30, 52, 0), (31, 53, 1), (32, 54, 1), (33, 55, 1), (34, 56, 1), (35, 57, 1), (36, 58, 1), (37, 59, 1), (38, 60, 1), (39, 61, 1), (40, 62, 1), (41, 63, 1), (42, 64, 1), (43, 65, 0)] ?_
            repeat (first | (refine p0_ (v := ?_) (a' := ?_) HT_.out (by rfl) (by rfl) (by rfl) (by kernel_rfl) (by exact fun _ _ _ h => h) (Or.inl ⟨by rfl, ?_⟩) ?_ ?_; rotate_left; (· (intro w'; go_simp; with_reducible rfl)); rotate_left; (· (simp only [Act.put, List.setIfInBounds_toArray, List.set_cons_zero, List.set_cons_succ, i64_w, i32_w]; rfl))) | (refine p1_ (a' := ?_) HT_.out (by rfl) (by rfl) (by rfl) (by kernel_rfl) (by exact fun _ _ _ h => h) (Or.inr ⟨by rfl, rfl⟩) ?_ ?_; rotate_left; (· (simp only [Act.put, List.setIfInBounds_toArray, List.set_cons_zero, List.set_cons_succ, i64_w, i32_w]; rfl))) | (refine p2_ (v := ?_) (a' := ?_) HT_.out HW_.out (by rfl) (by rfl) (by rfl) (by kernel_rfl) (by exact fun _ _ _ h => h) (Or.inl ⟨by rfl, ?_⟩) hHeld ?_ ?_; rotate_left; (· (rintro w' ⟨s0, s1, s2, s3⟩; go_simp; with_reducible rfl)); rotate_left; (· (simp only [Act.put, List.setIfInBounds_toArray, List.set_cons_zero, List.set_cons_succ, i64_w, i32_w]; rfl))))
            with_reducible refine end_ ?_
            refine done_ (done_of HT_.out (by kernel_rfl)) ?_
            try go_wp2
            go_ret
            exact ⟨by first | rfl | (simp [errW_none, errW_some] <;> rfl) | (simp [*, errW_none, errW_some] <;> rfl), by repeat (first | (with_reducible first | exact HB.out | apply wa | apply wN | apply wd | refine ws ?_ GE332.out | refine ws ?_ GE336.out) | exact HB.out)⟩
          rw [if_neg c21] at H
          have c21b0 : decide (99 < ((rd_T84 l1 x17_2).f0)) = false := decide_eq_false c21
          clear c21
          by_cases c27 : x17_2 > 0
          rotate_left
          · rw [if_neg c27] at H
            have c27b0 : decide (0 < x17_2) = false := decide_eq_false c27
            clear c27
            replace H := Option.bind_eq_some_iff.mp H
            obtain ⟨t340, A680, H⟩ := H
            replace H : (if t340 = true then (if ((rd_T84 l1 x17_2).f2) = (-1) then (impl_RobotsOk.l0 k2 l1 l1 (l1.length : Int) (wrap64 (x17_2 + 1)) a0_0 a0_1 a0_2) else ((impl_Beside.f k2 a0_0 a0_1 a0_2 ((rd_T84 l1 x17_2).f1) ((rd_T84 l1 x17_2).f2)).bind fun t341 => (if t341 = true then (impl_RobotsOk.l0 k2 l1 l1 (l1.length : Int) (wrap64 (x17_2 + 1)) a0_0 a0_1 a0_2) else (some false)))) else (some false)) = some r := H
            have A68 := Aside0.mk A680
            clear A680
            by_cases c69 : t340 = true
            rotate_left
            · replace c69 := Bool.eq_false_iff.mpr c69
              subst c69
              have H1 : (some false) = some r := by rw [if_neg (show ¬ (false = true) by decide)] at H; exact H
              clear H
              have H := H1
              clear H1
              obtain rfl := Option.some.inj H
              have p335 : 0 ≤ (x17_2 : Int) := of_decide_eq_true (by first | (with_reducible assumption) | assumption)
              have q335 : x17_2 < (l1.length : Int) := of_decide_eq_true (by first | (with_reducible assumption) | assumption)
              obtain ⟨ad335, e335, hx335_0, hx335_1, hx335_2, hx335_3⟩ := at_T84 HR1.out x17_2 p335 q335
              cases e335
              replace hx335_0 := (HB.out.cell (World.block_lt_of_cell? w _ hx335_0)).trans hx335_0
              replace hx335_1 := (HB.out.cell (World.block_lt_of_cell? w _ hx335_1)).trans hx335_1
              replace hx335_2 := (HB.out.cell (World.block_lt_of_cell? w _ hx335_2)).trans hx335_2
              replace hx335_3 := (HB.out.cell (World.block_lt_of_cell? w _ hx335_3)).trans hx335_3
              replace p335 := eq_true p335
              replace q335 := eq_true q335
              try go_wp2_with (first | ((with_reducible refine gate_dst (N := 6) rfl ?_); (try (refine gate_guard (by rfl) ?_; dsimp only)); refine box_event ?hg (N := 6) ?hd (cs := #[.int .i64 0, .int .i64 0, .int .i64 0, .bool false]) (t := 84) ?hr ?_; (case hd => rfl); (case hg => rfl); (case hr => first | (go_simp; done) | (go_simp; rfl)); intro gb336 hg w93 hbox hb; have n0_ := Aside0.mk (bb (g := gb332) (by first | (with_reducible exact BK332.out) | (with_reducible exact bN BK332.out _) | (with_reducible exact bd BK332.out) | ((with_reducible repeat first | apply bN | apply bd | apply ba); exact BK332.out)) hb); have n1_ := Aside0.mk (below_step (by repeat (first | (with_reducible first | exact HB.out | apply wa | apply wN | apply wd | refine ws ?_ GE332.out) | exact HB.out)) hb); have n2_ := Aside0.mk (hbox); have n3_ := Aside0.mk ((by rw [hg]; exact (below_size (by repeat (first | (with_reducible first | exact HB.out | apply wa | apply wN | apply wd | refine ws ?_ GE332.out) | exact HB.out))) : w.heap.size ≤ gb336)); have n4_ := n3_; have n5_ := Aside0.mk ((by rw [hg]; exact Nat.ne_of_lt (blk_lt (g := gb332) (by (with_reducible repeat first | apply bN | apply bd | apply ba); exact BK332.out)) : gb332 ≠ gb336)); have n6_ := Aside0.mk ((by rw [hg]; exact Nat.ne_of_gt (blk_lt (g := gb332) (by (with_reducible repeat first | apply bN | apply bd | apply ba); exact BK332.out)) : gb336 ≠ gb332)); clear BK332; clear HB; have BK332 := n0_; have HB := n1_; have BK336 := n2_; have GW336 := n3_; have GE336 := n4_; have NB332_336 := n5_; have NB336_332 := n6_; clear n0_ n1_ n2_ n3_ n4_ n5_ n6_; clear hb hbox hg; have hnb94 := NB336_332.out; have hnc94 := NB332_336.out; have hcz95_0 : w93.cell? ⟨gb336, 0, none⟩ = some (.int .i64 0) := (bc BK336.out 0).trans rfl; have hcz95_1 : w93.cell? ⟨gb336, 1, none⟩ = some (.int .i64 0) := (bc BK336.out 1).trans rfl; have hcz95_2 : w93.cell? ⟨gb336, 2, none⟩ = some (.int .i64 0) := (bc BK336.out 2).trans rfl; have hcz95_3 : w93.cell? ⟨gb336, 3, none⟩ = some (.bool false) := (bc BK336.out 3).trans rfl; have hfz95_0 := bz BK336.out 0; have hfz95_1 := bz BK336.out 1; have hfz95_2 := bz BK336.out 2; have hfz95_3 := bz BK336.out 3))
              have n0_ : Aside0 (((((w93.setCell ⟨gb336, 0, none⟩ (.int .i64 ((rd_T84 l1 x17_2).f0))).setCell ⟨gb336, 1, none⟩ (.int .i64 ((rd_T84 l1 x17_2).f1))).setCell ⟨gb336, 2, none⟩ (.int .i64 ((rd_T84 l1 x17_2).f2))).setCell ⟨gb336, 3, none⟩ (.bool ((rd_T84 l1 x17_2).f3))).heap[gb332]? = some (.cells #[.int .i64 a0_0, .int .i64 a0_1, .string a0_2] 27 (0, 0))) := ⟨by (with_reducible repeat first | apply bN | apply bd | apply ba); refine blk_far ?_ NB332_336.out _; (with_reducible repeat first | apply bN | apply bd | apply ba); refine blk_far ?_ NB332_336.out _; (with_reducible repeat first | apply bN | apply bd | apply ba); refine blk_far ?_ NB332_336.out _; (with_reducible repeat first | apply bN | apply bd | apply ba); refine blk_far ?_ NB332_336.out _; (with_reducible repeat first | apply bN | apply bd | apply ba); exact BK332.out⟩
              have n1_ : Aside0 (((((w93.setCell ⟨gb336, 0, none⟩ (.int .i64 ((rd_T84 l1 x17_2).f0))).setCell ⟨gb336, 1, none⟩ (.int .i64 ((rd_T84 l1 x17_2).f1))).setCell ⟨gb336, 2, none⟩ (.int .i64 ((rd_T84 l1 x17_2).f2))).setCell ⟨gb336, 3, none⟩ (.bool ((rd_T84 l1 x17_2).f3))).heap[gb336]? = some (.cells #[.int .i64 ((rd_T84 l1 x17_2).f0), .int .i64 ((rd_T84 l1 x17_2).f1), .int .i64 ((rd_T84 l1 x17_2).f2), .bool ((rd_T84 l1 x17_2).f3)] 84 (0, 0))) := ⟨by (with_reducible repeat first | apply bN | apply bd | apply ba); refine blk_put (cs := #[.int .i64 ((rd_T84 l1 x17_2).f0), .int .i64 ((rd_T84 l1 x17_2).f1), .int .i64 ((rd_T84 l1 x17_2).f2), .bool false]) ?_ 3 _ rfl; (with_reducible repeat first | apply bN | apply bd | apply ba); refine blk_put (cs := #[.int .i64 ((rd_T84 l1 x17_2).f0), .int .i64 ((rd_T84 l1 x17_2).f1), .int .i64 0, .bool false]) ?_ 2 _ rfl; (with_reducible repeat first | apply bN | apply bd | apply ba); refine blk_put (cs := #[.int .i64 ((rd_T84 l1 x17_2).f0), .int .i64 0, .int .i64 0, .bool false]) ?_ 1 _ rfl; (with_reducible repeat first | apply bN | apply bd | apply ba); refine blk_put (cs := #[.int .i64 0, .int .i64 0, .int .i64 0, .bool false]) ?_ 0 _ rfl; (with_reducible repeat first | apply bN | apply bd | apply ba); exact BK336.out⟩
              have n2_ : Aside0 (Below w.heap.size w ((((w93.setCell ⟨gb336, 0, none⟩ (.int .i64 ((rd_T84 l1 x17_2).f0))).setCell ⟨gb336, 1, none⟩ (.int .i64 ((rd_T84 l1 x17_2).f1))).setCell ⟨gb336, 2, none⟩ (.int .i64 ((rd_T84 l1 x17_2).f2))).setCell ⟨gb336, 3, none⟩ (.bool ((rd_T84 l1 x17_2).f3)))) := ⟨by repeat (first | (with_reducible first | exact HB.out | apply wa | apply wN | apply wd | refine ws ?_ GE332.out | refine ws ?_ GE336.out) | exact HB.out)⟩
              (try clear BK332)
              (try clear BK336)
              (try clear HB)
              (first | (rw [show World.drewN ((((w93.setCell ⟨gb336, 0, none⟩ (.int .i64 ((rd_T84 l1 x17_2).f0))).setCell ⟨gb336, 1, none⟩ (.int .i64 ((rd_T84 l1 x17_2).f1))).setCell ⟨gb336, 2, none⟩ (.int .i64 ((rd_T84 l1 x17_2).f2))).setCell ⟨gb336, 3, none⟩ (.bool ((rd_T84 l1 x17_2).f3))) nd = World.drewN ((((w93.setCell ⟨gb336, 0, none⟩ (.int .i64 ((rd_T84 l1 x17_2).f0))).setCell ⟨gb336, 1, none⟩ (.int .i64 ((rd_T84 l1 x17_2).f1))).setCell ⟨gb336, 2, none⟩ (.int .i64 ((rd_T84 l1 x17_2).f2))).setCell ⟨gb336, 3, none⟩ (.bool ((rd_T84 l1 x17_2).f3))) nd from rfl]; have p0_ := Aside0.mk (bN n0_.out nd); have p1_ := Aside0.mk (bN n1_.out nd); have p2_ := Aside0.mk (wN n2_.out nd); generalize World.drewN ((((w93.setCell ⟨gb336, 0, none⟩ (.int .i64 ((rd_T84 l1 x17_2).f0))).setCell ⟨gb336, 1, none⟩ (.int .i64 ((rd_T84 l1 x17_2).f1))).setCell ⟨gb336, 2, none⟩ (.int .i64 ((rd_T84 l1 x17_2).f2))).setCell ⟨gb336, 3, none⟩ (.bool ((rd_T84 l1 x17_2).f3))) nd = w96 at p0_ p1_ p2_ ⊢; clear n0_ n1_ n2_; have n0_ := p0_; have n1_ := p1_; have n2_ := p2_; clear p0_ p1_ p2_) | generalize ((((w93.setCell ⟨gb336, 0, none⟩ (.int .i64 ((rd_T84 l1 x17_2).f0))).setCell ⟨gb336, 1, none⟩ (.int .i64 ((rd_T84 l1 x17_2).f1))).setCell ⟨gb336, 2, none⟩ (.int .i64 ((rd_T84 l1 x17_2).f2))).setCell ⟨gb336, 3, none⟩ (.bool ((rd_T84 l1 x17_2).f3))) = w96 at n0_ n1_ n2_ ⊢)
              have BK332 := n0_
              have BK336 := n1_
              have HB := n2_
              clear n0_ n1_ n2_
              have n0_ := Aside0.mk (bd BK332.out)
              have n1_ := Aside0.mk (bd BK336.out)
              have n2_ := Aside0.mk (wd HB.out)
              clear BK332
              clear BK336
              clear HB
              have BK332 := n0_
              have BK336 := n1_
              have HB := n2_
              clear n0_ n1_ n2_
              refine start_ (n := 44) (S := fun w' => w'.cell? ⟨gb336, 0, none⟩ = some (.int .i64 ((rd_T84 l1 x17_2).f0)) ∧ w'.cell? ⟨gb336, 1, none⟩ = some (.int .i64 ((rd_T84 l1 x17_2).f1)) ∧ w'.cell? ⟨gb336, 2, none⟩ = some (.int .i64 ((rd_T84 l1 x17_2).f2)) ∧ w'.cell? ⟨gb336, 3, none⟩ = some (.bool ((rd_T84 l1 x17_2).f3)) ∧ w'.cell? ⟨gb332, 0, none⟩ = some (.int .i64 a0_0) ∧ w'.cell? ⟨gb332, 1, none⟩ = some (.int .i64 a0_1) ∧ w'.cell? ⟨gb332, 2, none⟩ = some (.string a0_2)) (ds := []) #[false, false, false, false, false, false, false, false, false, false, false, false, false, false, false, false, false, false, false, false, false, false, false, false, false, false, false, false, false, false, false, false, false, false, false, false, false, false, false, false, false, false, false, false] (by kernel_rfl) rfl rfl ⟨(bc BK336.out 0).trans rfl, (bc BK336.out 1).trans rfl, (bc BK336.out 2).trans rfl, (bc BK336.out 3).trans rfl, (bc BK332.out 0).trans rfl, (bc BK332.out 1).trans rfl, (bc BK332.out 2).trans rfl⟩ (fun hHeld => ?_); refine with_tabW impl_RobotsOk.tab6 impl_RobotsOk.bits6 (fun HT_ HW_ => ?_)
              generalize w96.drew = w97 at BK332 BK336 HB hHeld ⊢
              refine plan_ [(0, 22, 0), (1, 23, 2), (2, 24, 0), (3, 25, 0), (4, 26, 0), (5, 27, 2), (6, 28, 0), (7, 29, 0), (8, 30, 0), (9, 31, 0), (10, 32, 0), (11, 33, 0), (12, 34, 1), (13, 35, 1), (14, 36, 1), (15, 37, 1), (16, 38, 1), (17, 39, 1), (18, 40, 1), (19, 41, 1), (20, 42, 1), (21, 43, 0), (22, 44, 0), (23, 45, 0), (25, 47, 0), (24, 46, 2), (26, 48, 2)] ?_
              repeat (first | (refine p0_ (v := ?_) (a' := ?_) HT_.out (by rfl) (by rfl) (by rfl) (by kernel_rfl) (by exact fun _ _ _ h => h) (Or.inl ⟨by rfl, ?_⟩) ?_ ?_; rotate_left; (· (intro w'; go_simp; with_reducible rfl)); rotate_left; (· (simp only [Act.put, List.setIfInBounds_toArray, List.set_cons_zero, List.set_cons_succ, i64_w, i32_w]; rfl))) | (refine p1_ (a' := ?_) HT_.out (by rfl) (by rfl) (by rfl) (by kernel_rfl) (by exact fun _ _ _ h => h) (Or.inr ⟨by rfl, rfl⟩) ?_ ?_; rotate_left; (· (simp only [Act.put, List.setIfInBounds_toArray, List.set_cons_zero, List.set_cons_succ, i64_w, i32_w]; rfl))) | (refine p2_ (v := ?_) (a' := ?_) HT_.out HW_.out (by rfl) (by rfl) (by rfl) (by kernel_rfl) (by exact fun _ _ _ h => h) (Or.inl ⟨by rfl, ?_⟩) hHeld ?_ ?_; rotate_left; (· (rintro w' ⟨s0, s1, s2, s3, s4, s5, s6⟩; go_simp; with_reducible rfl)); rotate_left; (· (simp only [Act.put, List.setIfInBounds_toArray, List.set_cons_zero, List.set_cons_succ, i64_w, i32_w]; rfl))))
              with_reducible refine end_ ?_
              refine one_ (i := 27) (N := some 49) #[true, true, true, true, true, true, true, true, true, true, true, true, true, true, true, true, true, true, true, true, true, true, true, true, true, true, true, true, false, false, false, false, false, false, false, false, false, false, false, false, false, false, false, false] rfl rfl (one_of HT_.out (by kernel_rfl)) (by decide) (fun K hK => ?_)
              refine goes_ Try.func95 (by kernel_rfl) rfl #[.agg #[.int .i64 a0_0, .int .i64 a0_1, .string a0_2], .int .i64 ((rd_T84 l1 x17_2).f1)] (by rfl) rfl rfl (by (try simp only [List.map_toArray, List.map_cons, List.map_nil]); first | done | rfl | (simp only [List.length_drop, List.length_take]; rfl)) ?_
              with_reducible refine (impl_isFree.calls a0_0 a0_1 a0_2 ((rd_T84 l1 x17_2).f1) false _ A68.out).mono ?_
              rintro e w98 ⟨rfl, hb⟩
              refine ⟨_, rfl, ?_⟩
              have n0_ := Aside0.mk (bb (g := gb332) (by first | (with_reducible exact BK332.out) | (with_reducible exact bN BK332.out _) | (with_reducible exact bd BK332.out) | ((with_reducible repeat first | apply bN | apply bd | apply ba); exact BK332.out)) hb)
              have n1_ := Aside0.mk (bb (g := gb336) (by first | (with_reducible exact BK336.out) | (with_reducible exact bN BK336.out _) | (with_reducible exact bd BK336.out) | ((with_reducible repeat first | apply bN | apply bd | apply ba); exact BK336.out)) hb)
              have n2_ := Aside0.mk (below_step (by repeat (first | (with_reducible first | exact HB.out | apply wa | apply wN | apply wd | refine ws ?_ GE332.out | refine ws ?_ GE336.out) | exact HB.out)) hb)
              clear BK332
              clear BK336
              clear HB
              have BK332 := n0_
              have BK336 := n1_
              have HB := n2_
              clear n0_ n1_ n2_
              (try clear hb)
              (try clear hb2)
              (try clear hk)
              (try clear hi)
              refine hK.out _ _ ⟨(bc BK336.out 0).trans rfl, (bc BK336.out 1).trans rfl, (bc BK336.out 2).trans rfl, (bc BK336.out 3).trans rfl, (bc BK332.out 0).trans rfl, (bc BK332.out 1).trans rfl, (bc BK332.out 2).trans rfl⟩ (fun hHeld => ?_)
              clear hK K
              refine norm_ (a' := ?_) ?_ ?_
              rotate_left
              · show Act.put _ (some 49) _ = _
                simp only [Act.put, List.setIfInBounds_toArray, List.set_cons_zero, List.set_cons_succ, i64_w, i32_w]
                rfl
              refine plan_ [(28, 50, 0), (29, 51, 0), (30, 52, 0), (31, 53, 1), (32, 54, 1), (33, 55, 1), (34, 56, 1), (35, 57, 1), (36, 58, 1), (37, 59, 1), (38, 60, 1), (39, 61, 1), (40, 62, 1), (41, 63, 1), (42, 64, 1), (43, 65, 0)] ?_
              repeat (first | (refine p0_ (v := ?_) (a' := ?_) HT_.out (by rfl) (by rfl) (by rfl) (by kernel_rfl) (by exact fun _ _ _ h => h) (Or.inl ⟨by rfl, ?_⟩) ?_ ?_; rotate_left; (· (intro w'; go_simp; with_reducible rfl)); rotate_left; (· (simp only [Act.put, List.setIfInBounds_toArray, List.set_cons_zero, List.set_cons_succ, i64_w, i32_w]; rfl))) | (refine p1_ (a' := ?_) HT_.out (by rfl) (by rfl) (by rfl) (by kernel_rfl) (by exact fun _ _ _ h => h) (Or.inr ⟨by rfl, rfl⟩) ?_ ?_; rotate_left; (· (simp only [Act.put, List.setIfInBounds_toArray, List.set_cons_zero, List.set_cons_succ, i64_w, i32_w]; rfl))))
              with_reducible refine end_ ?_
              refine done_ (done_of HT_.out (by kernel_rfl)) ?_
              try go_wp2
              go_ret
              exact ⟨by first | rfl | (simp [errW_none, errW_some] <;> rfl) | (simp [*, errW_none, errW_some] <;> rfl), by repeat (first | (with_reducible first | exact HB.out | apply wa | apply wN | apply wd | refine ws ?_ GE332.out | refine ws ?_ GE336.out) | exact HB.out)⟩
            subst c69
            have H1 : (if ((rd_T84 l1 x17_2).f2) = (-1) then (impl_RobotsOk.l0 k2 l1 l1 (l1.length : Int) (wrap64 (x17_2 + 1)) a0_0 a0_1 a0_2) else ((impl_Beside.f k2 a0_0 a0_1 a0_2 ((rd_T84 l1 x17_2).f1) ((rd_T84 l1 x17_2).f2)).bind fun t341 => (if t341 = true then (impl_RobotsOk.l0 k2 l1 l1 (l1.length : Int) (wrap64 (x17_2 + 1)) a0_0 a0_1 a0_2) else (some false)))) = some r := by rw [if_pos rfl] at H; exact H
            clear H
            have H := H1
            clear H1
            by_cases c70 : ((rd_T84 l1 x17_2).f2) = (-1)
            · rw [if_pos c70] at H
              have c70b0 : (((rd_T84 l1 x17_2).f2) == (-1)) = true := beq_iff_eq.mpr c70
              have c70b1 : (((rd_T84 l1 x17_2).f2) != (-1)) = false := bne_eq_false_iff_eq.mpr c70
              clear c70
              have H' := Aside0.mk H
              clear H
              have p335 : 0 ≤ (x17_2 : Int) := of_decide_eq_true (by first | (with_reducible assumption) | assumption)
              have q335 : x17_2 < (l1.length : Int) := of_decide_eq_true (by first | (with_reducible assumption) | assumption)
              obtain ⟨ad335, e335, hx335_0, hx335_1, hx335_2, hx335_3⟩ := at_T84 HR1.out x17_2 p335 q335
              cases e335
              replace hx335_0 := (HB.out.cell (World.block_lt_of_cell? w _ hx335_0)).trans hx335_0
              replace hx335_1 := (HB.out.cell (World.block_lt_of_cell? w _ hx335_1)).trans hx335_1
              replace hx335_2 := (HB.out.cell (World.block_lt_of_cell? w _ hx335_2)).trans hx335_2
              replace hx335_3 := (HB.out.cell (World.block_lt_of_cell? w _ hx335_3)).trans hx335_3
              replace p335 := eq_true p335
              replace q335 := eq_true q335
              try go_wp2_with (first | ((with_reducible refine gate_dst (N := 6) rfl ?_); (try (refine gate_guard (by rfl) ?_; dsimp only)); refine box_event ?hg (N := 6) ?hd (cs := #[.int .i64 0, .int .i64 0, .int .i64 0, .bool false]) (t := 84) ?hr ?_; (case hd => rfl); (case hg => rfl); (case hr => first | (go_simp; done) | (go_simp; rfl)); intro gb336 hg w71 hbox hb; have n0_ := Aside0.mk (bb (g := gb332) (by first | (with_reducible exact BK332.out) | (with_reducible exact bN BK332.out _) | (with_reducible exact bd BK332.out) | ((with_reducible repeat first | apply bN | apply bd | apply ba); exact BK332.out)) hb); have n1_ := Aside0.mk (below_step (by repeat (first | (with_reducible first | exact HB.out | apply wa | apply wN | apply wd | refine ws ?_ GE332.out) | exact HB.out)) hb); have n2_ := Aside0.mk (hbox); have n3_ := Aside0.mk ((by rw [hg]; exact (below_size (by repeat (first | (with_reducible first | exact HB.out | apply wa | apply wN | apply wd | refine ws ?_ GE332.out) | exact HB.out))) : w.heap.size ≤ gb336)); have n4_ := n3_; have n5_ := Aside0.mk ((by rw [hg]; exact Nat.ne_of_lt (blk_lt (g := gb332) (by (with_reducible repeat first | apply bN | apply bd | apply ba); exact BK332.out)) : gb332 ≠ gb336)); have n6_ := Aside0.mk ((by rw [hg]; exact Nat.ne_of_gt (blk_lt (g := gb332) (by (with_reducible repeat first | apply bN | apply bd | apply ba); exact BK332.out)) : gb336 ≠ gb332)); clear BK332; clear HB; have BK332 := n0_; have HB := n1_; have BK336 := n2_; have GW336 := n3_; have GE336 := n4_; have NB332_336 := n5_; have NB336_332 := n6_; clear n0_ n1_ n2_ n3_ n4_ n5_ n6_; clear hb hbox hg; have hnb72 := NB336_332.out; have hnc72 := NB332_336.out; have hcz73_0 : w71.cell? ⟨gb336, 0, none⟩ = some (.int .i64 0) := (bc BK336.out 0).trans rfl; have hcz73_1 : w71.cell? ⟨gb336, 1, none⟩ = some (.int .i64 0) := (bc BK336.out 1).trans rfl; have hcz73_2 : w71.cell? ⟨gb336, 2, none⟩ = some (.int .i64 0) := (bc BK336.out 2).trans rfl; have hcz73_3 : w71.cell? ⟨gb336, 3, none⟩ = some (.bool false) := (bc BK336.out 3).trans rfl; have hfz73_0 := bz BK336.out 0; have hfz73_1 := bz BK336.out 1; have hfz73_2 := bz BK336.out 2; have hfz73_3 := bz BK336.out 3))
              have n0_ : Aside0 (((((w71.setCell ⟨gb336, 0, none⟩ (.int .i64 ((rd_T84 l1 x17_2).f0))).setCell ⟨gb336, 1, none⟩ (.int .i64 ((rd_T84 l1 x17_2).f1))).setCell ⟨gb336, 2, none⟩ (.int .i64 ((rd_T84 l1 x17_2).f2))).setCell ⟨gb336, 3, none⟩ (.bool ((rd_T84 l1 x17_2).f3))).heap[gb332]? = some (.cells #[.int .i64 a0_0, .int .i64 a0_1, .string a0_2] 27 (0, 0))) := ⟨by (with_reducible repeat first | apply bN | apply bd | apply ba); refine blk_far ?_ NB332_336.out _; (with_reducible repeat first | apply bN | apply bd | apply ba); refine blk_far ?_ NB332_336.out _; (with_reducible repeat first | apply bN | apply bd | apply ba); refine blk_far ?_ NB332_336.out _; (with_reducible repeat first | apply bN | apply bd | apply ba); refine blk_far ?_ NB332_336.out _; (with_reducible repeat first | apply bN | apply bd | apply ba); exact BK332.out⟩
              have n1_ : Aside0 (((((w71.setCell ⟨gb336, 0, none⟩ (.int .i64 ((rd_T84 l1 x17_2).f0))).setCell ⟨gb336, 1, none⟩ (.int .i64 ((rd_T84 l1 x17_2).f1))).setCell ⟨gb336, 2, none⟩ (.int .i64 ((rd_T84 l1 x17_2).f2))).setCell ⟨gb336, 3, none⟩ (.bool ((rd_T84 l1 x17_2).f3))).heap[gb336]? = some (.cells #[.int .i64 ((rd_T84 l1 x17_2).f0), .int .i64 ((rd_T84 l1 x17_2).f1), .int .i64 ((rd_T84 l1 x17_2).f2), .bool ((rd_T84 l1 x17_2).f3)] 84 (0, 0))) := ⟨by (with_reducible repeat first | apply bN | apply bd | apply ba); refine blk_put (cs := #[.int .i64 ((rd_T84 l1 x17_2).f0), .int .i64 ((rd_T84 l1 x17_2).f1), .int .i64 ((rd_T84 l1 x17_2).f2), .bool false]) ?_ 3 _ rfl; (with_reducible repeat first | apply bN | apply bd | apply ba); refine blk_put (cs := #[.int .i64 ((rd_T84 l1 x17_2).f0), .int .i64 ((rd_T84 l1 x17_2).f1), .int .i64 0, .bool false]) ?_ 2 _ rfl; (with_reducible repeat first | apply bN | apply bd | apply ba); refine blk_put (cs := #[.int .i64 ((rd_T84 l1 x17_2).f0), .int .i64 0, .int .i64 0, .bool false]) ?_ 1 _ rfl; (with_reducible repeat first | apply bN | apply bd | apply ba); refine blk_put (cs := #[.int .i64 0, .int .i64 0, .int .i64 0, .bool false]) ?_ 0 _ rfl; (with_reducible repeat first | apply bN | apply bd | apply ba); exact BK336.out⟩
              have n2_ : Aside0 (Below w.heap.size w ((((w71.setCell ⟨gb336, 0, none⟩ (.int .i64 ((rd_T84 l1 x17_2).f0))).setCell ⟨gb336, 1, none⟩ (.int .i64 ((rd_T84 l1 x17_2).f1))).setCell ⟨gb336, 2, none⟩ (.int .i64 ((rd_T84 l1 x17_2).f2))).setCell ⟨gb336, 3, none⟩ (.bool ((rd_T84 l1 x17_2).f3)))) := ⟨by repeat (first | (with_reducible first | exact HB.out | apply wa | apply wN | apply wd | refine ws ?_ GE332.out | refine ws ?_ GE336.out) | exact HB.out)⟩
              (try clear BK332)
              (try clear BK336)
              (try clear HB)
              (first | (rw [show World.drewN ((((w71.setCell ⟨gb336, 0, none⟩ (.int .i64 ((rd_T84 l1 x17_2).f0))).setCell ⟨gb336, 1, none⟩ (.int .i64 ((rd_T84 l1 x17_2).f1))).setCell ⟨gb336, 2, none⟩ (.int .i64 ((rd_T84 l1 x17_2).f2))).setCell ⟨gb336, 3, none⟩ (.bool ((rd_T84 l1 x17_2).f3))) nd = World.drewN ((((w71.setCell ⟨gb336, 0, none⟩ (.int .i64 ((rd_T84 l1 x17_2).f0))).setCell ⟨gb336, 1, none⟩ (.int .i64 ((rd_T84 l1 x17_2).f1))).setCell ⟨gb336, 2, none⟩ (.int .i64 ((rd_T84 l1 x17_2).f2))).setCell ⟨gb336, 3, none⟩ (.bool ((rd_T84 l1 x17_2).f3))) nd from rfl]; have p0_ := Aside0.mk (bN n0_.out nd); have p1_ := Aside0.mk (bN n1_.out nd); have p2_ := Aside0.mk (wN n2_.out nd); generalize World.drewN ((((w71.setCell ⟨gb336, 0, none⟩ (.int .i64 ((rd_T84 l1 x17_2).f0))).setCell ⟨gb336, 1, none⟩ (.int .i64 ((rd_T84 l1 x17_2).f1))).setCell ⟨gb336, 2, none⟩ (.int .i64 ((rd_T84 l1 x17_2).f2))).setCell ⟨gb336, 3, none⟩ (.bool ((rd_T84 l1 x17_2).f3))) nd = w74 at p0_ p1_ p2_ ⊢; clear n0_ n1_ n2_; have n0_ := p0_; have n1_ := p1_; have n2_ := p2_; clear p0_ p1_ p2_) | generalize ((((w71.setCell ⟨gb336, 0, none⟩ (.int .i64 ((rd_T84 l1 x17_2).f0))).setCell ⟨gb336, 1, none⟩ (.int .i64 ((rd_T84 l1 x17_2).f1))).setCell ⟨gb336, 2, none⟩ (.int .i64 ((rd_T84 l1 x17_2).f2))).setCell ⟨gb336, 3, none⟩ (.bool ((rd_T84 l1 x17_2).f3))) = w74 at n0_ n1_ n2_ ⊢)
              have BK332 := n0_
              have BK336 := n1_
              have HB := n2_
              clear n0_ n1_ n2_
              have n0_ := Aside0.mk (bd BK332.out)
              have n1_ := Aside0.mk (bd BK336.out)
              have n2_ := Aside0.mk (wd HB.out)
              clear BK332
              clear BK336
              clear HB
              have BK332 := n0_
              have BK336 := n1_
              have HB := n2_
              clear n0_ n1_ n2_
              refine start_ (n := 44) (S := fun w' => w'.cell? ⟨gb336, 0, none⟩ = some (.int .i64 ((rd_T84 l1 x17_2).f0)) ∧ w'.cell? ⟨gb336, 1, none⟩ = some (.int .i64 ((rd_T84 l1 x17_2).f1)) ∧ w'.cell? ⟨gb336, 2, none⟩ = some (.int .i64 ((rd_T84 l1 x17_2).f2)) ∧ w'.cell? ⟨gb336, 3, none⟩ = some (.bool ((rd_T84 l1 x17_2).f3)) ∧ w'.cell? ⟨gb332, 0, none⟩ = some (.int .i64 a0_0) ∧ w'.cell? ⟨gb332, 1, none⟩ = some (.int .i64 a0_1) ∧ w'.cell? ⟨gb332, 2, none⟩ = some (.string a0_2)) (ds := []) #[false, false, false, false, false, false, false, false, false, false, false, false, false, false, false, false, false, false, false, false, false, false, false, false, false, false, false, false, false, false, false, false, false, false, false, false, false, false, false, false, false, false, false, false] (by kernel_rfl) rfl rfl ⟨(bc BK336.out 0).trans rfl, (bc BK336.out 1).trans rfl, (bc BK336.out 2).trans rfl, (bc BK336.out 3).trans rfl, (bc BK332.out 0).trans rfl, (bc BK332.out 1).trans rfl, (bc BK332.out 2).trans rfl⟩ (fun hHeld => ?_); refine with_tabW impl_RobotsOk.tab6 impl_RobotsOk.bits6 (fun HT_ HW_ => ?_)
              generalize w74.drew = w75 at BK332 BK336 HB hHeld ⊢
              refine plan_ [(0, 22, 0), (1, 23, 2), (2, 24, 0), (3, 25, 0), (4, 26, 0), (5, 27, 2), (6, 28, 0), (7, 29, 0), (8, 30, 0), (9, 31, 0), (10, 32, 0), (11, 33, 0), (12, 34, 1), (13, 35, 1), (14, 36, 1), (15, 37, 1), (16, 38, 1), (17, 39, 1), (18, 40, 1), (19, 41, 1), (20, 42, 1), (21, 43, 0), (22, 44, 0), (23, 45, 0), (25, 47, 0), (24, 46, 2), (26, 48, 2)] ?_
              repeat (first | (refine p0_ (v := ?_) (a' := ?_) HT_.out (by rfl) (by rfl) (by rfl) (by kernel_rfl) (by exact fun _ _ _ h => h) (Or.inl ⟨by rfl, ?_⟩) ?_ ?_; rotate_left; (· (intro w'; go_simp; with_reducible rfl)); rotate_left; (· (simp only [Act.put, List.setIfInBounds_toArray, List.set_cons_zero, List.set_cons_succ, i64_w, i32_w]; rfl))) | (refine p1_ (a' := ?_) HT_.out (by rfl) (by rfl) (by rfl) (by kernel_rfl) (by exact fun _ _ _ h => h) (Or.inr ⟨by rfl, rfl⟩) ?_ ?_; rotate_left; (· (simp only [Act.put, List.setIfInBounds_toArray, List.set_cons_zero, List.set_cons_succ, i64_w, i32_w]; rfl))) | (refine p2_ (v := ?_) (a' := ?_) HT_.out HW_.out (by rfl) (by rfl) (by rfl) (by kernel_rfl) (by exact fun _ _ _ h => h) (Or.inl ⟨by rfl, ?_⟩) hHeld ?_ ?_; rotate_left; (· (rintro w' ⟨s0, s1, s2, s3, s4, s5, s6⟩; go_simp; with_reducible rfl)); rotate_left; (· (simp only [Act.put, List.setIfInBounds_toArray, List.set_cons_zero, List.set_cons_succ, i64_w, i32_w]; rfl))))
              with_reducible refine end_ ?_
              refine one_ (i := 27) (N := some 49) #[true, true, true, true, true, true, true, true, true, true, true, true, true, true, true, true, true, true, true, true, true, true, true, true, true, true, true, true, false, false, false, false, false, false, false, false, false, false, false, false, false, false, false, false] rfl rfl (one_of HT_.out (by kernel_rfl)) (by decide) (fun K hK => ?_)
              refine goes_ Try.func95 (by kernel_rfl) rfl #[.agg #[.int .i64 a0_0, .int .i64 a0_1, .string a0_2], .int .i64 ((rd_T84 l1 x17_2).f1)] (by rfl) rfl rfl (by (try simp only [List.map_toArray, List.map_cons, List.map_nil]); first | done | rfl | (simp only [List.length_drop, List.length_take]; rfl)) ?_
              with_reducible refine (impl_isFree.calls a0_0 a0_1 a0_2 ((rd_T84 l1 x17_2).f1) true _ A68.out).mono ?_
              rintro e w76 ⟨rfl, hb⟩
              refine ⟨_, rfl, ?_⟩
              have n0_ := Aside0.mk (bb (g := gb332) (by first | (with_reducible exact BK332.out) | (with_reducible exact bN BK332.out _) | (with_reducible exact bd BK332.out) | ((with_reducible repeat first | apply bN | apply bd | apply ba); exact BK332.out)) hb)
              have n1_ := Aside0.mk (bb (g := gb336) (by first | (with_reducible exact BK336.out) | (with_reducible exact bN BK336.out _) | (with_reducible exact bd BK336.out) | ((with_reducible repeat first | apply bN | apply bd | apply ba); exact BK336.out)) hb)
              have n2_ := Aside0.mk (below_step (by repeat (first | (with_reducible first | exact HB.out | apply wa | apply wN | apply wd | refine ws ?_ GE332.out | refine ws ?_ GE336.out) | exact HB.out)) hb)
              clear BK332
              clear BK336
              clear HB
              have BK332 := n0_
              have BK336 := n1_
              have HB := n2_
              clear n0_ n1_ n2_
              (try clear hb)
              (try clear hb2)
              (try clear hk)
              (try clear hi)
              refine hK.out _ _ ⟨(bc BK336.out 0).trans rfl, (bc BK336.out 1).trans rfl, (bc BK336.out 2).trans rfl, (bc BK336.out 3).trans rfl, (bc BK332.out 0).trans rfl, (bc BK332.out 1).trans rfl, (bc BK332.out 2).trans rfl⟩ (fun hHeld => ?_)
              clear hK K
              refine norm_ (a' := ?_) ?_ ?_
              rotate_left
              · show Act.put _ (some 49) _ = _
                simp only [Act.put, List.setIfInBounds_toArray, List.set_cons_zero, List.set_cons_succ, i64_w, i32_w]
                rfl
              refine plan_ [(28, 50, 0), (29, 51, 0), (30, 52, 0), (31, 53, 0), (32, 54, 2), (33, 55, 0), (34, 56, 0), (35, 57, 1), (36, 58, 1), (37, 59, 1), (38, 60, 1), (39, 61, 1), (40, 62, 1), (41, 63, 1), (42, 64, 0), (43, 65, 0)] ?_
              repeat (first | (refine p0_ (v := ?_) (a' := ?_) HT_.out (by rfl) (by rfl) (by rfl) (by kernel_rfl) (by exact fun _ _ _ h => h) (Or.inl ⟨by rfl, ?_⟩) ?_ ?_; rotate_left; (· (intro w'; go_simp; with_reducible rfl)); rotate_left; (· (simp only [Act.put, List.setIfInBounds_toArray, List.set_cons_zero, List.set_cons_succ, i64_w, i32_w]; rfl))) | (refine p1_ (a' := ?_) HT_.out (by rfl) (by rfl) (by rfl) (by kernel_rfl) (by exact fun _ _ _ h => h) (Or.inr ⟨by rfl, rfl⟩) ?_ ?_; rotate_left; (· (simp only [Act.put, List.setIfInBounds_toArray, List.set_cons_zero, List.set_cons_succ, i64_w, i32_w]; rfl))) | (refine p2_ (v := ?_) (a' := ?_) HT_.out HW_.out (by rfl) (by rfl) (by rfl) (by kernel_rfl) (by exact fun _ _ _ h => h) (Or.inl ⟨by rfl, ?_⟩) hHeld ?_ ?_; rotate_left; (· (rintro w' ⟨s0, s1, s2, s3, s4, s5, s6⟩; go_simp; with_reducible rfl)); rotate_left; (· (simp only [Act.put, List.setIfInBounds_toArray, List.set_cons_zero, List.set_cons_succ, i64_w, i32_w]; rfl))))
              with_reducible refine end_ ?_
              refine done_ (done_of HT_.out (by kernel_rfl)) ?_
              try go_wp2
              go_roundg k2
              case measure => have := HJ2.out; have := HK2.out; omega
              case rel => exact ⟨(wrap64 (x17_2 + 1)), (by first | rfl | (simp; done) | (simp [*]; done)), H', ⟨by have := HJ2.out; have := HK2.out; omega⟩, ⟨by (with_reducible repeat first | apply bN | apply bd | apply ba); exact BK332.out⟩, ⟨by repeat (first | (with_reducible first | exact HB.out | apply wa | apply wN | apply wd | refine ws ?_ GE332.out | refine ws ?_ GE336.out) | exact HB.out)⟩⟩
            rw [if_neg c70] at H
            have c70b0 : (((rd_T84 l1 x17_2).f2) == (-1)) = false := beq_eq_false_iff_ne.mpr c70
            have c70b1 : (((rd_T84 l1 x17_2).f2) != (-1)) = true := bne_iff_ne.mpr c70
            replace H := Option.bind_eq_some_iff.mp H
            obtain ⟨t341, A770, H⟩ := H
            replace H : (if t341 = true then (impl_RobotsOk.l0 k2 l1 l1 (l1.length : Int) (wrap64 (x17_2 + 1)) a0_0 a0_1 a0_2) else (some false)) = some r := H
            have A77 := Aside0.mk A770
            clear A770
            by_cases c78 : t341 = true
            rotate_left
            · replace c78 := Bool.eq_false_iff.mpr c78
              subst c78
              have H1 : (some false) = some r := by rw [if_neg (show ¬ (false = true) by decide)] at H; exact H
              clear H
              have H := H1
              clear H1
              obtain rfl := Option.some.inj H
              have p335 : 0 ≤ (x17_2 : Int) := of_decide_eq_true (by first | (with_reducible assumption) | assumption)
              have q335 : x17_2 < (l1.length : Int) := of_decide_eq_true (by first | (with_reducible assumption) | assumption)
              obtain ⟨ad335, e335, hx335_0, hx335_1, hx335_2, hx335_3⟩ := at_T84 HR1.out x17_2 p335 q335
              cases e335
              replace hx335_0 := (HB.out.cell (World.block_lt_of_cell? w _ hx335_0)).trans hx335_0
              replace hx335_1 := (HB.out.cell (World.block_lt_of_cell? w _ hx335_1)).trans hx335_1
              replace hx335_2 := (HB.out.cell (World.block_lt_of_cell? w _ hx335_2)).trans hx335_2
              replace hx335_3 := (HB.out.cell (World.block_lt_of_cell? w _ hx335_3)).trans hx335_3
              replace p335 := eq_true p335
              replace q335 := eq_true q335
              try go_wp2_with (first | ((with_reducible refine gate_dst (N := 6) rfl ?_); (try (refine gate_guard (by rfl) ?_; dsimp only)); refine box_event ?hg (N := 6) ?hd (cs := #[.int .i64 0, .int .i64 0, .int .i64 0, .bool false]) (t := 84) ?hr ?_; (case hd => rfl); (case hg => rfl); (case hr => first | (go_simp; done) | (go_simp; rfl)); intro gb336 hg w86 hbox hb; have n0_ := Aside0.mk (bb (g := gb332) (by first | (with_reducible exact BK332.out) | (with_reducible exact bN BK332.out _) | (with_reducible exact bd BK332.out) | ((with_reducible repeat first | apply bN | apply bd | apply ba); exact BK332.out)) hb); have n1_ := Aside0.mk (below_step (by repeat (first | (with_reducible first | exact HB.out | apply wa | apply wN | apply wd | refine ws ?_ GE332.out) | exact HB.out)) hb); have n2_ := Aside0.mk (hbox); have n3_ := Aside0.mk ((by rw [hg]; exact (below_size (by repeat (first | (with_reducible first | exact HB.out | apply wa | apply wN | apply wd | refine ws ?_ GE332.out) | exact HB.out))) : w.heap.size ≤ gb336)); have n4_ := n3_; have n5_ := Aside0.mk ((by rw [hg]; exact Nat.ne_of_lt (blk_lt (g := gb332) (by (with_reducible repeat first | apply bN | apply bd | apply ba); exact BK332.out)) : gb332 ≠ gb336)); have n6_ := Aside0.mk ((by rw [hg]; exact Nat.ne_of_gt (blk_lt (g := gb332) (by (with_reducible repeat first | apply bN | apply bd | apply ba); exact BK332.out)) : gb336 ≠ gb332)); clear BK332; clear HB; have BK332 := n0_; have HB := n1_; have BK336 := n2_; have GW336 := n3_; have GE336 := n4_; have NB332_336 := n5_; have NB336_332 := n6_; clear n0_ n1_ n2_ n3_ n4_ n5_ n6_; clear hb hbox hg; have hnb87 := NB336_332.out; have hnc87 := NB332_336.out; have hcz88_0 : w86.cell? ⟨gb336, 0, none⟩ = some (.int .i64 0) := (bc BK336.out 0).trans rfl; have hcz88_1 : w86.cell? ⟨gb336, 1, none⟩ = some (.int .i64 0) := (bc BK336.out 1).trans rfl; have hcz88_2 : w86.cell? ⟨gb336, 2, none⟩ = some (.int .i64 0) := (bc BK336.out 2).trans rfl; have hcz88_3 : w86.cell? ⟨gb336, 3, none⟩ = some (.bool false) := (bc BK336.out 3).trans rfl; have hfz88_0 := bz BK336.out 0; have hfz88_1 := bz BK336.out 1; have hfz88_2 := bz BK336.out 2; have hfz88_3 := bz BK336.out 3))
              have n0_ : Aside0 (((((w86.setCell ⟨gb336, 0, none⟩ (.int .i64 ((rd_T84 l1 x17_2).f0))).setCell ⟨gb336, 1, none⟩ (.int .i64 ((rd_T84 l1 x17_2).f1))).setCell ⟨gb336, 2, none⟩ (.int .i64 ((rd_T84 l1 x17_2).f2))).setCell ⟨gb336, 3, none⟩ (.bool ((rd_T84 l1 x17_2).f3))).heap[gb332]? = some (.cells #[.int .i64 a0_0, .int .i64 a0_1, .string a0_2] 27 (0, 0))) := ⟨by (with_reducible repeat first | apply bN | apply bd | apply ba); refine blk_far ?_ NB332_336.out _; (with_reducible repeat first | apply bN | apply bd | apply ba); refine blk_far ?_ NB332_336.out _; (with_reducible repeat first | apply bN | apply bd | apply ba); refine blk_far ?_ NB332_336.out _; (with_reducible repeat first | apply bN | apply bd | apply ba); refine blk_far ?_ NB332_336.out _; (with_reducible repeat first | apply bN | apply bd | apply ba); exact BK332.out⟩
              have n1_ : Aside0 (((((w86.setCell ⟨gb336, 0, none⟩ (.int .i64 ((rd_T84 l1 x17_2).f0))).setCell ⟨gb336, 1, none⟩ (.int .i64 ((rd_T84 l1 x17_2).f1))).setCell ⟨gb336, 2, none⟩ (.int .i64 ((rd_T84 l1 x17_2).f2))).setCell ⟨gb336, 3, none⟩ (.bool ((rd_T84 l1 x17_2).f3))).heap[gb336]? = some (.cells #[.int .i64 ((rd_T84 l1 x17_2).f0), .int .i64 ((rd_T84 l1 x17_2).f1), .int .i64 ((rd_T84 l1 x17_2).f2), .bool ((rd_T84 l1 x17_2).f3)] 84 (0, 0))) := ⟨by (with_reducible repeat first | apply bN | apply bd | apply ba); refine blk_put (cs := #[.int .i64 ((rd_T84 l1 x17_2).f0), .int .i64 ((rd_T84 l1 x17_2).f1), .int .i64 ((rd_T84 l1 x17_2).f2), .bool false]) ?_ 3 _ rfl; (with_reducible repeat first | apply bN | apply bd | apply ba); refine blk_put (cs := #[.int .i64 ((rd_T84 l1 x17_2).f0), .int .i64 ((rd_T84 l1 x17_2).f1), .int .i64 0, .bool false]) ?_ 2 _ rfl; (with_reducible repeat first | apply bN | apply bd | apply ba); refine blk_put (cs := #[.int .i64 ((rd_T84 l1 x17_2).f0), .int .i64 0, .int .i64 0, .bool false]) ?_ 1 _ rfl; (with_reducible repeat first | apply bN | apply bd | apply ba); refine blk_put (cs := #[.int .i64 0, .int .i64 0, .int .i64 0, .bool false]) ?_ 0 _ rfl; (with_reducible repeat first | apply bN | apply bd | apply ba); exact BK336.out⟩
              have n2_ : Aside0 (Below w.heap.size w ((((w86.setCell ⟨gb336, 0, none⟩ (.int .i64 ((rd_T84 l1 x17_2).f0))).setCell ⟨gb336, 1, none⟩ (.int .i64 ((rd_T84 l1 x17_2).f1))).setCell ⟨gb336, 2, none⟩ (.int .i64 ((rd_T84 l1 x17_2).f2))).setCell ⟨gb336, 3, none⟩ (.bool ((rd_T84 l1 x17_2).f3)))) := ⟨by repeat (first | (with_reducible first | exact HB.out | apply wa | apply wN | apply wd | refine ws ?_ GE332.out | refine ws ?_ GE336.out) | exact HB.out)⟩
              (try clear BK332)
              (try clear BK336)
              (try clear HB)
              (first | (rw [show World.drewN ((((w86.setCell ⟨gb336, 0, none⟩ (.int .i64 ((rd_T84 l1 x17_2).f0))).setCell ⟨gb336, 1, none⟩ (.int .i64 ((rd_T84 l1 x17_2).f1))).setCell ⟨gb336, 2, none⟩ (.int .i64 ((rd_T84 l1 x17_2).f2))).setCell ⟨gb336, 3, none⟩ (.bool ((rd_T84 l1 x17_2).f3))) nd = World.drewN ((((w86.setCell ⟨gb336, 0, none⟩ (.int .i64 ((rd_T84 l1 x17_2).f0))).setCell ⟨gb336, 1, none⟩ (.int .i64 ((rd_T84 l1 x17_2).f1))).setCell ⟨gb336, 2, none⟩ (.int .i64 ((rd_T84 l1 x17_2).f2))).setCell ⟨gb336, 3, none⟩ (.bool ((rd_T84 l1 x17_2).f3))) nd from rfl]; have p0_ := Aside0.mk (bN n0_.out nd); have p1_ := Aside0.mk (bN n1_.out nd); have p2_ := Aside0.mk (wN n2_.out nd); generalize World.drewN ((((w86.setCell ⟨gb336, 0, none⟩ (.int .i64 ((rd_T84 l1 x17_2).f0))).setCell ⟨gb336, 1, none⟩ (.int .i64 ((rd_T84 l1 x17_2).f1))).setCell ⟨gb336, 2, none⟩ (.int .i64 ((rd_T84 l1 x17_2).f2))).setCell ⟨gb336, 3, none⟩ (.bool ((rd_T84 l1 x17_2).f3))) nd = w89 at p0_ p1_ p2_ ⊢; clear n0_ n1_ n2_; have n0_ := p0_; have n1_ := p1_; have n2_ := p2_; clear p0_ p1_ p2_) | generalize ((((w86.setCell ⟨gb336, 0, none⟩ (.int .i64 ((rd_T84 l1 x17_2).f0))).setCell ⟨gb336, 1, none⟩ (.int .i64 ((rd_T84 l1 x17_2).f1))).setCell ⟨gb336, 2, none⟩ (.int .i64 ((rd_T84 l1 x17_2).f2))).setCell ⟨gb336, 3, none⟩ (.bool ((rd_T84 l1 x17_2).f3))) = w89 at n0_ n1_ n2_ ⊢)
              have BK332 := n0_
              have BK336 := n1_
              have HB := n2_
              clear n0_ n1_ n2_
              have n0_ := Aside0.mk (bd BK332.out)
              have n1_ := Aside0.mk (bd BK336.out)
              have n2_ := Aside0.mk (wd HB.out)
              clear BK332
              clear BK336
              clear HB
              have BK332 := n0_
              have BK336 := n1_
              have HB := n2_
              clear n0_ n1_ n2_
              refine start_ (n := 44) (S := fun w' => w'.cell? ⟨gb336, 0, none⟩ = some (.int .i64 ((rd_T84 l1 x17_2).f0)) ∧ w'.cell? ⟨gb336, 1, none⟩ = some (.int .i64 ((rd_T84 l1 x17_2).f1)) ∧ w'.cell? ⟨gb336, 2, none⟩ = some (.int .i64 ((rd_T84 l1 x17_2).f2)) ∧ w'.cell? ⟨gb336, 3, none⟩ = some (.bool ((rd_T84 l1 x17_2).f3)) ∧ w'.cell? ⟨gb332, 0, none⟩ = some (.int .i64 a0_0) ∧ w'.cell? ⟨gb332, 1, none⟩ = some (.int .i64 a0_1) ∧ w'.cell? ⟨gb332, 2, none⟩ = some (.string a0_2)) (ds := []) #[false, false, false, false, false, false, false, false, false, false, false, false, false, false, false, false, false, false, false, false, false, false, false, false, false, false, false, false, false, false, false, false, false, false, false, false, false, false, false, false, false, false, false, false] (by kernel_rfl) rfl rfl ⟨(bc BK336.out 0).trans rfl, (bc BK336.out 1).trans rfl, (bc BK336.out 2).trans rfl, (bc BK336.out 3).trans rfl, (bc BK332.out 0).trans rfl, (bc BK332.out 1).trans rfl, (bc BK332.out 2).trans rfl⟩ (fun hHeld => ?_); refine with_tabW impl_RobotsOk.tab6 impl_RobotsOk.bits6 (fun HT_ HW_ => ?_)
              generalize w89.drew = w90 at BK332 BK336 HB hHeld ⊢
              refine plan_ [(0, 22, 0), (1, 23, 2), (2, 24, 0), (3, 25, 0), (4, 26, 0), (5, 27, 2), (6, 28, 0), (7, 29, 0), (8, 30, 0), (9, 31, 0), (10, 32, 0), (11, 33, 0), (12, 34, 1), (13, 35, 1), (14, 36, 1), (15, 37, 1), (16, 38, 1), (17, 39, 1), (18, 40, 1), (19, 41, 1), (20, 42, 1), (21, 43, 0), (22, 44, 0), (23, 45, 0), (25, 47, 0), (24, 46, 2), (26, 48, 2)] ?_
              repeat (first | (refine p0_ (v := ?_) (a' := ?_) HT_.out (by rfl) (by rfl) (by rfl) (by kernel_rfl) (by exact fun _ _ _ h => h) (Or.inl ⟨by rfl, ?_⟩) ?_ ?_; rotate_left; (· (intro w'; go_simp; with_reducible rfl)); rotate_left; (· (simp only [Act.put, List.setIfInBounds_toArray, List.set_cons_zero, List.set_cons_succ, i64_w, i32_w]; rfl))) | (refine p1_ (a' := ?_) HT_.out (by rfl) (by rfl) (by rfl) (by kernel_rfl) (by exact fun _ _ _ h => h) (Or.inr ⟨by rfl, rfl⟩) ?_ ?_; rotate_left; (· (simp only [Act.put, List.setIfInBounds_toArray, List.set_cons_zero, List.set_cons_succ, i64_w, i32_w]; rfl))) | (refine p2_ (v := ?_) (a' := ?_) HT_.out HW_.out (by rfl) (by rfl) (by rfl) (by kernel_rfl) (by exact fun _ _ _ h => h) (Or.inl ⟨by rfl, ?_⟩) hHeld ?_ ?_; rotate_left; (· (rintro w' ⟨s0, s1, s2, s3, s4, s5, s6⟩; go_simp; with_reducible rfl)); rotate_left; (· (simp only [Act.put, List.setIfInBounds_toArray, List.set_cons_zero, List.set_cons_succ, i64_w, i32_w]; rfl))))
              with_reducible refine end_ ?_
              refine one_ (i := 27) (N := some 49) #[true, true, true, true, true, true, true, true, true, true, true, true, true, true, true, true, true, true, true, true, true, true, true, true, true, true, true, true, false, false, false, false, false, false, false, false, false, false, false, false, false, false, false, false] rfl rfl (one_of HT_.out (by kernel_rfl)) (by decide) (fun K hK => ?_)
              refine goes_ Try.func95 (by kernel_rfl) rfl #[.agg #[.int .i64 a0_0, .int .i64 a0_1, .string a0_2], .int .i64 ((rd_T84 l1 x17_2).f1)] (by rfl) rfl rfl (by (try simp only [List.map_toArray, List.map_cons, List.map_nil]); first | done | rfl | (simp only [List.length_drop, List.length_take]; rfl)) ?_
              with_reducible refine (impl_isFree.calls a0_0 a0_1 a0_2 ((rd_T84 l1 x17_2).f1) true _ A68.out).mono ?_
              rintro e w91 ⟨rfl, hb⟩
              refine ⟨_, rfl, ?_⟩
              have n0_ := Aside0.mk (bb (g := gb332) (by first | (with_reducible exact BK332.out) | (with_reducible exact bN BK332.out _) | (with_reducible exact bd BK332.out) | ((with_reducible repeat first | apply bN | apply bd | apply ba); exact BK332.out)) hb)
              have n1_ := Aside0.mk (bb (g := gb336) (by first | (with_reducible exact BK336.out) | (with_reducible exact bN BK336.out _) | (with_reducible exact bd BK336.out) | ((with_reducible repeat first | apply bN | apply bd | apply ba); exact BK336.out)) hb)
              have n2_ := Aside0.mk (below_step (by repeat (first | (with_reducible first | exact HB.out | apply wa | apply wN | apply wd | refine ws ?_ GE332.out | refine ws ?_ GE336.out) | exact HB.out)) hb)
              clear BK332
              clear BK336
              clear HB
              have BK332 := n0_
              have BK336 := n1_
              have HB := n2_
              clear n0_ n1_ n2_
              (try clear hb)
              (try clear hb2)
              (try clear hk)
              (try clear hi)
              refine hK.out _ _ ⟨(bc BK336.out 0).trans rfl, (bc BK336.out 1).trans rfl, (bc BK336.out 2).trans rfl, (bc BK336.out 3).trans rfl, (bc BK332.out 0).trans rfl, (bc BK332.out 1).trans rfl, (bc BK332.out 2).trans rfl⟩ (fun hHeld => ?_)
              clear hK K
              refine norm_ (a' := ?_) ?_ ?_
              rotate_left
              · show Act.put _ (some 49) _ = _
                simp only [Act.put, List.setIfInBounds_toArray, List.set_cons_zero, List.set_cons_succ, i64_w, i32_w]
                rfl
              refine plan_ [(28, 50, 0), (29, 51, 0), (30, 52, 0), (31, 53, 0), (32, 54, 2), (33, 55, 0), (34, 56, 0), (36, 58, 0), (38, 60, 0), (35, 57, 2), (37, 59, 2), (39, 61, 2)] ?_
              repeat (first | (refine p0_ (v := ?_) (a' := ?_) HT_.out (by rfl) (by rfl) (by rfl) (by kernel_rfl) (by exact fun _ _ _ h => h) (Or.inl ⟨by rfl, ?_⟩) ?_ ?_; rotate_left; (· (intro w'; go_simp; with_reducible rfl)); rotate_left; (· (simp only [Act.put, List.setIfInBounds_toArray, List.set_cons_zero, List.set_cons_succ, i64_w, i32_w]; rfl))) | (refine p2_ (v := ?_) (a' := ?_) HT_.out HW_.out (by rfl) (by rfl) (by rfl) (by kernel_rfl) (by exact fun _ _ _ h => h) (Or.inl ⟨by rfl, ?_⟩) hHeld ?_ ?_; rotate_left; (· (rintro w' ⟨s0, s1, s2, s3, s4, s5, s6⟩; go_simp; with_reducible rfl)); rotate_left; (· (simp only [Act.put, List.setIfInBounds_toArray, List.set_cons_zero, List.set_cons_succ, i64_w, i32_w]; rfl))))
              with_reducible refine end_ ?_
              refine one_ (i := 40) (N := some 62) #[true, true, true, true, true, true, true, true, true, true, true, true, true, true, true, true, true, true, true, true, true, true, true, true, true, true, true, true, true, true, true, true, true, true, true, true, true, true, true, true, true, false, false, false] rfl rfl (one_of HT_.out (by kernel_rfl)) (by decide) (fun K hK => ?_)
              refine goes_ Try.func82 (by kernel_rfl) rfl #[.agg #[.int .i64 a0_0, .int .i64 a0_1, .string a0_2], .int .i64 ((rd_T84 l1 x17_2).f1), .int .i64 ((rd_T84 l1 x17_2).f2)] (by rfl) rfl rfl (by (try simp only [List.map_toArray, List.map_cons, List.map_nil]); first | done | rfl | (simp only [List.length_drop, List.length_take]; rfl)) ?_
              with_reducible refine (impl_Beside.calls k2 a0_0 a0_1 a0_2 ((rd_T84 l1 x17_2).f1) ((rd_T84 l1 x17_2).f2) false _ A77.out).mono ?_
              rintro e w92 ⟨rfl, hb⟩
              refine ⟨_, rfl, ?_⟩
              have n0_ := Aside0.mk (bb (g := gb332) (by first | (with_reducible exact BK332.out) | (with_reducible exact bN BK332.out _) | (with_reducible exact bd BK332.out) | ((with_reducible repeat first | apply bN | apply bd | apply ba); exact BK332.out)) hb)
              have n1_ := Aside0.mk (bb (g := gb336) (by first | (with_reducible exact BK336.out) | (with_reducible exact bN BK336.out _) | (with_reducible exact bd BK336.out) | ((with_reducible repeat first | apply bN | apply bd | apply ba); exact BK336.out)) hb)
              have n2_ := Aside0.mk (below_step (by repeat (first | (with_reducible first | exact HB.out | apply wa | apply wN | apply wd | refine ws ?_ GE332.out | refine ws ?_ GE336.out) | exact HB.out)) hb)
              clear BK332
              clear BK336
              clear HB
              have BK332 := n0_
              have BK336 := n1_
              have HB := n2_
              clear n0_ n1_ n2_
              (try clear hb)
              (try clear hb2)
              (try clear hk)
              (try clear hi)
              refine hK.out _ _ ⟨(bc BK336.out 0).trans rfl, (bc BK336.out 1).trans rfl, (bc BK336.out 2).trans rfl, (bc BK336.out 3).trans rfl, (bc BK332.out 0).trans rfl, (bc BK332.out 1).trans rfl, (bc BK332.out 2).trans rfl⟩ (fun hHeld => ?_)
              clear hK K
              refine norm_ (a' := ?_) ?_ ?_
              rotate_left
              · show Act.put _ (some 62) _ = _
                simp only [Act.put, List.setIfInBounds_toArray, List.set_cons_zero, List.set_cons_succ, i64_w, i32_w]
                rfl
              refine plan_ [(41, 63, 0), (42, 64, 0), (43, 65, 0)] ?_
              repeat (refine p0_ (v := ?_) (a' := ?_) HT_.out (by rfl) (by rfl) (by rfl) (by kernel_rfl) (by exact fun _ _ _ h => h) (Or.inl ⟨by rfl, ?_⟩) ?_ ?_; rotate_left; (· (intro w'; go_simp; with_reducible rfl)); rotate_left; (· (simp only [Act.put, List.setIfInBounds_toArray, List.set_cons_zero, List.set_cons_succ, i64_w, i32_w]; rfl)))
              with_reducible refine end_ ?_
              refine done_ (done_of HT_.out (by kernel_rfl)) ?_
              try go_wp2
              go_ret
              exact ⟨by first | rfl | (simp [errW_none, errW_some] <;> rfl) | (simp [*, errW_none, errW_some] <;> rfl), by repeat (first | (with_reducible first | exact HB.out | apply wa | apply wN | apply wd | refine ws ?_ GE332.out | refine ws ?_ GE336.out) | exact HB.out)⟩
            subst c78
            have H1 : (impl_RobotsOk.l0 k2 l1 l1 (l1.length : Int) (wrap64 (x17_2 + 1)) a0_0 a0_1 a0_2) = some r := by rw [if_pos rfl] at H; exact H
            clear H
            have H := H1
            clear H1
            have H' := Aside0.mk H
            clear H
            have p335 : 0 ≤ (x17_2 : Int) := of_decide_eq_true (by first | (with_reducible assumption) | assumption)
            have q335 : x17_2 < (l1.length : Int) := of_decide_eq_true (by first | (with_reducible assumption) | assumption)
            obtain ⟨ad335, e335, hx335_0, hx335_1, hx335_2, hx335_3⟩ := at_T84 HR1.out x17_2 p335 q335
            cases e335
            replace hx335_0 := (HB.out.cell (World.block_lt_of_cell? w _ hx335_0)).trans hx335_0
            replace hx335_1 := (HB.out.cell (World.block_lt_of_cell? w _ hx335_1)).trans hx335_1
            replace hx335_2 := (HB.out.cell (World.block_lt_of_cell? w _ hx335_2)).trans hx335_2
            replace hx335_3 := (HB.out.cell (World.block_lt_of_cell? w _ hx335_3)).trans hx335_3
            replace p335 := eq_true p335
            replace q335 := eq_true q335
            try go_wp2_with (first | ((with_reducible refine gate_dst (N := 6) rfl ?_); (try (refine gate_guard (by rfl) ?_; dsimp only)); refine box_event ?hg (N := 6) ?hd (cs := #[.int .i64 0, .int .i64 0, .int .i64 0, .bool false]) (t := 84) ?hr ?_; (case hd => rfl); (case hg => rfl); (case hr => first | (go_simp; done) | (go_simp; rfl)); intro gb336 hg w79 hbox hb; have n0_ := Aside0.mk (bb (g := gb332) (by first | (with_reducible exact BK332.out) | (with_reducible exact bN BK332.out _) | (with_reducible exact bd BK332.out) | ((with_reducible repeat first | apply bN | apply bd | apply ba); exact BK332.out)) hb); have n1_ := Aside0.mk (below_step (by repeat (first | (with_reducible first | exact HB.out | apply wa | apply wN | apply wd | refine ws ?_ GE332.out) | exact HB.out)) hb); have n2_ := Aside0.mk (hbox); have n3_ := Aside0.mk ((by rw [hg]; exact (below_size (by repeat (first | (with_reducible first | exact HB.out | apply wa | apply wN | apply wd | refine ws ?_ GE332.out) | exact HB.out))) : w.heap.size ≤ gb336)); have n4_ := n3_; have n5_ := Aside0.mk ((by rw [hg]; exact Nat.ne_of_lt (blk_lt (g := gb332) (by (with_reducible repeat first | apply bN | apply bd | apply ba); exact BK332.out)) : gb332 ≠ gb336)); have n6_ := Aside0.mk ((by rw [hg]; exact Nat.ne_of_gt (blk_lt (g := gb332) (by (with_reducible repeat first | apply bN | apply bd | apply ba); exact BK332.out)) : gb336 ≠ gb332)); clear BK332; clear HB; have BK332 := n0_; have HB := n1_; have BK336 := n2_; have GW336 := n3_; have GE336 := n4_; have NB332_336 := n5_; have NB336_332 := n6_; clear n0_ n1_ n2_ n3_ n4_ n5_ n6_; clear hb hbox hg; have hnb80 := NB336_332.out; have hnc80 := NB332_336.out; have hcz81_0 : w79.cell? ⟨gb336, 0, none⟩ = some (.int .i64 0) := (bc BK336.out 0).trans rfl; have hcz81_1 : w79.cell? ⟨gb336, 1, none⟩ = some (.int .i64 0) := (bc BK336.out 1).trans rfl; have hcz81_2 : w79.cell? ⟨gb336, 2, none⟩ = some (.int .i64 0) := (bc BK336.out 2).trans rfl; have hcz81_3 : w79.cell? ⟨gb336, 3, none⟩ = some (.bool false) := (bc BK336.out 3).trans rfl; have hfz81_0 := bz BK336.out 0; have hfz81_1 := bz BK336.out 1; have hfz81_2 := bz BK336.out 2; have hfz81_3 := bz BK336.out 3))
            have n0_ : Aside0 (((((w79.setCell ⟨gb336, 0, none⟩ (.int .i64 ((rd_T84 l1 x17_2).f0))).setCell ⟨gb336, 1, none⟩ (.int .i64 ((rd_T84 l1 x17_2).f1))).setCell ⟨gb336, 2, none⟩ (.int .i64 ((rd_T84 l1 x17_2).f2))).setCell ⟨gb336, 3, none⟩ (.bool ((rd_T84 l1 x17_2).f3))).heap[gb332]? = some (.cells #[.int .i64 a0_0, .int .i64 a0_1, .string a0_2] 27 (0, 0))) := ⟨by (with_reducible repeat first | apply bN | apply bd | apply ba); refine blk_far ?_ NB332_336.out _; (with_reducible repeat first | apply bN | apply bd | apply ba); refine blk_far ?_ NB332_336.out _; (with_reducible repeat first | apply bN | apply bd | apply ba); refine blk_far ?_ NB332_336.out _; (with_reducible repeat first | apply bN | apply bd | apply ba); refine blk_far ?_ NB332_336.out _; (with_reducible repeat first | apply bN | apply bd | apply ba); exact BK332.out⟩
            have n1_ : Aside0 (((((w79.setCell ⟨gb336, 0, none⟩ (.int .i64 ((rd_T84 l1 x17_2).f0))).setCell ⟨gb336, 1, none⟩ (.int .i64 ((rd_T84 l1 x17_2).f1))).setCell ⟨gb336, 2, none⟩ (.int .i64 ((rd_T84 l1 x17_2).f2))).setCell ⟨gb336, 3, none⟩ (.bool ((rd_T84 l1 x17_2).f3))).heap[gb336]? = some (.cells #[.int .i64 ((rd_T84 l1 x17_2).f0), .int .i64 ((rd_T84 l1 x17_2).f1), .int .i64 ((rd_T84 l1 x17_2).f2), .bool ((rd_T84 l1 x17_2).f3)] 84 (0, 0))) := ⟨by (with_reducible repeat first | apply bN | apply bd | apply ba); refine blk_put (cs := #[.int .i64 ((rd_T84 l1 x17_2).f0), .int .i64 ((rd_T84 l1 x17_2).f1), .int .i64 ((rd_T84 l1 x17_2).f2), .bool false]) ?_ 3 _ rfl; (with_reducible repeat first | apply bN | apply bd | apply ba); refine blk_put (cs := #[.int .i64 ((rd_T84 l1 x17_2).f0), .int .i64 ((rd_T84 l1 x17_2).f1), .int .i64 0, .bool false]) ?_ 2 _ rfl; (with_reducible repeat first | apply bN | apply bd | apply ba); refine blk_put (cs := #[.int .i64 ((rd_T84 l1 x17_2).f0), .int .i64 0, .int .i64 0, .bool false]) ?_ 1 _ rfl; (with_reducible repeat first | apply bN | apply bd | apply ba); refine blk_put (cs := #[.int .i64 0, .int .i64 0, .int .i64 0, .bool false]) ?_ 0 _ rfl; (with_reducible repeat first | apply bN | apply bd | apply ba); exact BK336.out⟩
            have n2_ : Aside0 (Below w.heap.size w ((((w79.setCell ⟨gb336, 0, none⟩ (.int .i64 ((rd_T84 l1 x17_2).f0))).setCell ⟨gb336, 1, none⟩ (.int .i64 ((rd_T84 l1 x17_2).f1))).setCell ⟨gb336, 2, none⟩ (.int .i64 ((rd_T84 l1 x17_2).f2))).setCell ⟨gb336, 3, none⟩ (.bool ((rd_T84 l1 x17_2).f3)))) := ⟨by repeat (first | (with_reducible first | exact HB.out | apply wa | apply wN | apply wd | refine ws ?_ GE332.out | refine ws ?_ GE336.out) | exact HB.out)⟩
            (try clear BK332)
            (try clear BK336)
            (try clear HB)
            (first | (rw [show World.drewN ((((w79.setCell ⟨gb336, 0, none⟩ (.int .i64 ((rd_T84 l1 x17_2).f0))).setCell ⟨gb336, 1, none⟩ (.int .i64 ((rd_T84 l1 x17_2).f1))).setCell ⟨gb336, 2, none⟩ (.int .i64 ((rd_T84 l1 x17_2).f2))).setCell ⟨gb336, 3, none⟩ (.bool ((rd_T84 l1 x17_2).f3))) nd = World.drewN ((((w79.setCell ⟨gb336, 0, none⟩ (.int .i64 ((rd_T84 l1 x17_2).f0))).setCell ⟨gb336, 1, none⟩ (.int .i64 ((rd_T84 l1 x17_2).f1))).setCell ⟨gb336, 2, none⟩ (.int .i64 ((rd_T84 l1 x17_2).f2))).setCell ⟨gb336, 3, none⟩ (.bool ((rd_T84 l1 x17_2).f3))) nd from rfl]; have p0_ := Aside0.mk (bN n0_.out nd); have p1_ := Aside0.mk (bN n1_.out nd); have p2_ := Aside0.mk (wN n2_.out nd); generalize World.drewN ((((w79.setCell ⟨gb336, 0, none⟩ (.int .i64 ((rd_T84 l1 x17_2).f0))).setCell ⟨gb336, 1, none⟩ (.int .i64 ((rd_T84 l1 x17_2).f1))).setCell ⟨gb336, 2, none⟩ (.int .i64 ((rd_T84 l1 x17_2).f2))).setCell ⟨gb336, 3, none⟩ (.bool ((rd_T84 l1 x17_2).f3))) nd = w82 at p0_ p1_ p2_ ⊢; clear n0_ n1_ n2_; have n0_ := p0_; have n1_ := p1_; have n2_ := p2_; clear p0_ p1_ p2_) | generalize ((((w79.setCell ⟨gb336, 0, none⟩ (.int .i64 ((rd_T84 l1 x17_2).f0))).setCell ⟨gb336, 1, none⟩ (.int .i64 ((rd_T84 l1 x17_2).f1))).setCell ⟨gb336, 2, none⟩ (.int .i64 ((rd_T84 l1 x17_2).f2))).setCell ⟨gb336, 3, none⟩ (.bool ((rd_T84 l1 x17_2).f3))) = w82 at n0_ n1_ n2_ ⊢)
            have BK332 := n0_
            have BK336 := n1_
            have HB := n2_
            clear n0_ n1_ n2_
            have n0_ := Aside0.mk (bd BK332.out)
            have n1_ := Aside0.mk (bd BK336.out)
            have n2_ := Aside0.mk (wd HB.out)
            clear BK332
            clear BK336
            clear HB
            have BK332 := n0_
            have BK336 := n1_
            have HB := n2_
            clear n0_ n1_ n2_
            refine start_ (n := 44) (S := fun w' => w'.cell? ⟨gb336, 0, none⟩ = some (.int .i64 ((rd_T84 l1 x17_2).f0)) ∧ w'.cell? ⟨gb336, 1, none⟩ = some (.int .i64 ((rd_T84 l1 x17_2).f1)) ∧ w'.cell? ⟨gb336, 2, none⟩ = some (.int .i64 ((rd_T84 l1 x17_2).f2)) ∧ w'.cell? ⟨gb336, 3, none⟩ = some (.bool ((rd_T84 l1 x17_2).f3)) ∧ w'.cell? ⟨gb332, 0, none⟩ = some (.int .i64 a0_0) ∧ w'.cell? ⟨gb332, 1, none⟩ = some (.int .i64 a0_1) ∧ w'.cell? ⟨gb332, 2, none⟩ = some (.string a0_2)) (ds := []) #[false, false, false, false, false, false, false, false, false, false, false, false, false, false, false, false, false, false, false, false, false, false, false, false, false, false, false, false, false, false, false, false, false, false, false, false, false, false, false, false, false, false, false, false] (by kernel_rfl) rfl rfl ⟨(bc BK336.out 0).trans rfl, (bc BK336.out 1).trans rfl, (bc BK336.out 2).trans rfl, (bc BK336.out 3).trans rfl, (bc BK332.out 0).trans rfl, (bc BK332.out 1).trans rfl, (bc BK332.out 2).trans rfl⟩ (fun hHeld => ?_); refine with_tabW impl_RobotsOk.tab6 impl_RobotsOk.bits6 (fun HT_ HW_ => ?_)
            generalize w82.drew = w83 at BK332 BK336 HB hHeld ⊢
            refine plan_ [(0, 22, 0), (1, 23, 2), (2, 24, 0), (3, 25, 0), (4, 26, 0), (5, 27, 2), (6, 28, 0), (7, 29, 0), (8, 30, 0), (9, 31, 0), (10, 32, 0), (11, 33, 0), (12, 34, 1), (13, 35, 1), (14, 36, 1), (15, 37, 1), (16, 38, 1), (17, 39, 1), (18, 40, 1), (19, 41, 1), (20, 42, 1), (21, 43, 0), (22, 44, 0), (23, 45, 0), (25, 47, 0), (24, 46, 2), (26, 48, 2)] ?_
            repeat (first | (refine p0_ (v := ?_) (a' := ?_) HT_.out (by rfl) (by rfl) (by rfl) (by kernel_rfl) (by exact fun _ _ _ h => h) (Or.inl ⟨by rfl, ?_⟩) ?_ ?_; rotate_left; (· (intro w'; go_simp; with_reducible rfl)); rotate_left; (· (simp only [Act.put, List.setIfInBounds_toArray, List.set_cons_zero, List.set_cons_succ, i64_w, i32_w]; rfl))) | (refine p1_ (a' := ?_) HT_.out (by rfl) (by rfl) (by rfl) (by kernel_rfl) (by exact fun _ _ _ h => h) (Or.inr ⟨by rfl, rfl⟩) ?_ ?_; rotate_left; (· (simp only [Act.put, List.setIfInBounds_toArray, List.set_cons_zero, List.set_cons_succ, i64_w, i32_w]; rfl))) | (refine p2_ (v := ?_) (a' := ?_) HT_.out HW_.out (by rfl) (by rfl) (by rfl) (by kernel_rfl) (by exact fun _ _ _ h => h) (Or.inl ⟨by rfl, ?_⟩) hHeld ?_ ?_; rotate_left; (· (rintro w' ⟨s0, s1, s2, s3, s4, s5, s6⟩; go_simp; with_reducible rfl)); rotate_left; (· (simp only [Act.put, List.setIfInBounds_toArray, List.set_cons_zero, List.set_cons_succ, i64_w, i32_w]; rfl))))
            with_reducible refine end_ ?_
            refine one_ (i := 27) (N := some 49) #[true, true, true, true, true, true, true, true, true, true, true, true, true, true, true, true, true, true, true, true, true, true, true, true, true, true, true, true, false, false, false, false, false, false, false, false, false, false, false, false, false, false, false, false] rfl rfl (one_of HT_.out (by kernel_rfl)) (by decide) (fun K hK => ?_)
            refine goes_ Try.func95 (by kernel_rfl) rfl #[.agg #[.int .i64 a0_0, .int .i64 a0_1, .string a0_2], .int .i64 ((rd_T84 l1 x17_2).f1)] (by rfl) rfl rfl (by (try simp only [List.map_toArray, List.map_cons, List.map_nil]); first | done | rfl | (simp only [List.length_drop, List.length_take]; rfl)) ?_
            with_reducible refine (impl_isFree.calls a0_0 a0_1 a0_2 ((rd_T84 l1 x17_2).f1) true _ A68.out).mono ?_
            rintro e w84 ⟨rfl, hb⟩
            refine ⟨_, rfl, ?_⟩
            have n0_ := Aside0.mk (bb (g := gb332) (by first | (with_reducible exact BK332.out) | (with_reducible exact bN BK332.out _) | (with_reducible exact bd BK332.out) | ((with_reducible repeat first | apply bN | apply bd | apply ba); exact BK332.out)) hb)
            have n1_ := Aside0.mk (bb (g := gb336) (by first | (with_reducible exact BK336.out) | (with_reducible exact bN BK336.out _) | (with_reducible exact bd BK336.out) | ((with_reducible repeat first | apply bN | apply bd | apply ba); exact BK336.out)) hb)
            have n2_ := Aside0.mk (below_step (by repeat (first | (with_reducible first | exact HB.out | apply wa | apply wN | apply wd | refine ws ?_ GE332.out | refine ws ?_ GE336.out) | exact HB.out)) hb)
            clear BK332
            clear BK336
            clear HB
            have BK332 := n0_
            have BK336 := n1_
            have HB := n2_
            clear n0_ n1_ n2_
            (try clear hb)
            (try clear hb2)
            (try clear hk)
            (try clear hi)
            refine hK.out _ _ ⟨(bc BK336.out 0).trans rfl, (bc BK336.out 1).trans rfl, (bc BK336.out 2).trans rfl, (bc BK336.out 3).trans rfl, (bc BK332.out 0).trans rfl, (bc BK332.out 1).trans rfl, (bc BK332.out 2).trans rfl⟩ (fun hHeld => ?_)
            clear hK K
            refine norm_ (a' := ?_) ?_ ?_
            rotate_left
            · show Act.put _ (some 49) _ = _
              simp only [Act.put, List.setIfInBounds_toArray, List.set_cons_zero, List.set_cons_succ, i64_w, i32_w]
              rfl
            refine plan_ [(28, 50, 0), (29, 51, 0), (30, 52, 0), (31, 53, 0), (32, 54, 2), (33, 55, 0), (34, 56, 0), (36, 58, 0), (38, 60, 0), (35, 57, 2), (37, 59, 2), (39, 61, 2)] ?_
            repeat (first | (refine p0_ (v := ?_) (a' := ?_) HT_.out (by rfl) (by rfl) (by rfl) (by kernel_rfl) (by exact fun _ _ _ h => h) (Or.inl ⟨by rfl, ?_⟩) ?_ ?_; rotate_left; (· (intro w'; go_simp; with_reducible rfl)); rotate_left; (· (simp only [Act.put, List.setIfInBounds_toArray, List.set_cons_zero, List.set_cons_succ, i64_w, i32_w]; rfl))) | (refine p2_ (v := ?_) (a' := ?_) HT_.out HW_.out (by rfl) (by rfl) (by rfl) (by kernel_rfl) (by exact fun _ _ _ h => h) (Or.inl ⟨by rfl, ?_⟩) hHeld ?_ ?_; rotate_left; (· (rintro w' ⟨s0, s1, s2, s3, s4, s5, s6⟩; go_simp; with_reducible rfl)); rotate_left; (· (simp only [Act.put, List.setIfInBounds_toArray, List.set_cons_zero, List.set_cons_succ, i64_w, i32_w]; rfl))))
            with_reducible refine end_ ?_
            refine one_ (i := 40) (N := some 62) #[true, true, true, true, true, true, true, true, true, true, true, true, true, true, true, true, true, true, true, true, true, true, true, true, true, true, true, true, true, true, true, true, true, true, true, true, true, true, true, true, true, false, false, false] rfl rfl (one_of HT_.out (by kernel_rfl)) (by decide) (fun K hK => ?_)
            refine goes_ Try.func82 (by kernel_rfl) rfl #[.agg #[.int .i64 a0_0, .int .i64 a0_1, .string a0_2], .int .i64 ((rd_T84 l1 x17_2).f1), .int .i64 ((rd_T84 l1 x17_2).f2)] (by rfl) rfl rfl (by (try simp only [List.map_toArray, List.map_cons, List.map_nil]); first | done | rfl | (simp only [List.length_drop, List.length_take]; rfl)) ?_
            with_reducible refine (impl_Beside.calls k2 a0_0 a0_1 a0_2 ((rd_T84 l1 x17_2).f1) ((rd_T84 l1 x17_2).f2) true _ A77.out).mono ?_
            rintro e w85 ⟨rfl, hb⟩
            refine ⟨_, rfl, ?_⟩
            have n0_ := Aside0.mk (bb (g := gb332) (by first | (with_reducible exact BK332.out) | (with_reducible exact bN BK332.out _) | (with_reducible exact bd BK332.out) | ((with_reducible repeat first | apply bN | apply bd | apply ba); exact BK332.out)) hb)
            have n1_ := Aside0.mk (bb (g := gb336) (by first | (with_reducible exact BK336.out) | (with_reducible exact bN BK336.out _) | (with_reducible exact bd BK336.out) | ((with_reducible repeat first | apply bN | apply bd | apply ba); exact BK336.out)) hb)
            have n2_ := Aside0.mk (below_step (by repeat (first | (with_reducible first | exact HB.out | apply wa | apply wN | apply wd | refine ws ?_ GE332.out | refine ws ?_ GE336.out) | exact HB.out)) hb)
            clear BK332
            clear BK336
            clear HB
            have BK332 := n0_
            have BK336 := n1_
            have HB := n2_
            clear n0_ n1_ n2_
            (try clear hb)
            (try clear hb2)
            (try clear hk)
            (try clear hi)
            refine hK.out _ _ ⟨(bc BK336.out 0).trans rfl, (bc BK336.out 1).trans rfl, (bc BK336.out 2).trans rfl, (bc BK336.out 3).trans rfl, (bc BK332.out 0).trans rfl, (bc BK332.out 1).trans rfl, (bc BK332.out 2).trans rfl⟩ (fun hHeld => ?_)
            clear hK K
            refine norm_ (a' := ?_) ?_ ?_
            rotate_left
            · show Act.put _ (some 62) _ = _
              simp only [Act.put, List.setIfInBounds_toArray, List.set_cons_zero, List.set_cons_succ, i64_w, i32_w]
              rfl
            refine plan_ [(41, 63, 0), (42, 64, 0), (43, 65, 0)] ?_
            repeat (refine p0_ (v := ?_) (a' := ?_) HT_.out (by rfl) (by rfl) (by rfl) (by kernel_rfl) (by exact fun _ _ _ h => h) (Or.inl ⟨by rfl, ?_⟩) ?_ ?_; rotate_left; (· (intro w'; go_simp; with_reducible rfl)); rotate_left; (· (simp only [Act.put, List.setIfInBounds_toArray, List.set_cons_zero, List.set_cons_succ, i64_w, i32_w]; rfl)))
            with_reducible refine end_ ?_
            refine done_ (done_of HT_.out (by kernel_rfl)) ?_
            try go_wp2
            go_roundg k2
            case measure => have := HJ2.out; have := HK2.out; omega
            case rel => exact ⟨(wrap64 (x17_2 + 1)), (by first | rfl | (simp; done) | (simp [*]; done)), H', ⟨by have := HJ2.out; have := HK2.out; omega⟩, ⟨by (with_reducible repeat first | apply bN | apply bd | apply ba); exact BK332.out⟩, ⟨by repeat (first | (with_reducible first | exact HB.out | apply wa | apply wN | apply wd | refine ws ?_ GE332.out | refine ws ?_ GE336.out) | exact HB.out)⟩⟩
          rw [if_pos c27] at H
          have c27b0 : decide (0 < x17_2) = true := decide_eq_true c27
          clear c27
          obtain ⟨ji28, hji28⟩ : ∃ j_ : Int, (wrap64 (x17_2 - 1)) = j_ := ⟨_, rfl⟩
          replace H : (if 0 ≤ (ji28) then (if (ji28) < (l1.length : Int) then (if ((rd_T84 l1 (ji28)).f0) ≥ ((rd_T84 l1 x17_2).f0) then (some false) else ((impl_isFree.f a0_0 a0_1 a0_2 ((rd_T84 l1 x17_2).f1)).bind fun t338 => (if t338 = true then (if ((rd_T84 l1 x17_2).f2) = (-1) then (impl_RobotsOk.l0 k2 l1 l1 (l1.length : Int) (wrap64 (x17_2 + 1)) a0_0 a0_1 a0_2) else ((impl_Beside.f k2 a0_0 a0_1 a0_2 ((rd_T84 l1 x17_2).f1) ((rd_T84 l1 x17_2).f2)).bind fun t339 => (if t339 = true then (impl_RobotsOk.l0 k2 l1 l1 (l1.length : Int) (wrap64 (x17_2 + 1)) a0_0 a0_1 a0_2) else (some false)))) else (some false)))) else (none)) else (none)) = some r := by first | (rw [hji28] at H; exact H) | (simp only [hji28] at H ⊢; exact H)
          have hji28w : (IntKind.i64.wrap (x17_2 - 1)) = ji28 := (i64_w _).trans hji28
          by_cases c29 : 0 ≤ (ji28)
          rotate_left
          · rw [if_neg c29] at H
            exact absurd H (by simp)
          rw [if_pos c29] at H
          have c29b0 : decide (0 ≤ (ji28)) = true := decide_eq_true c29
          clear c29
          by_cases c30 : (ji28) < (l1.length : Int)
          rotate_left
          · rw [if_neg c30] at H
            exact absurd H (by simp)
          rw [if_pos c30] at H
          have c30b0 : decide ((ji28) < (l1.length : Int)) = true := decide_eq_true c30
          clear c30
          by_cases c31 : ((rd_T84 l1 (ji28)).f0) ≥ ((rd_T84 l1 x17_2).f0)
          · rw [if_pos c31] at H
            have c31b0 : decide (((rd_T84 l1 x17_2).f0) ≤ ((rd_T84 l1 (ji28)).f0)) = true := decide_eq_true c31
            clear c31
            obtain rfl := Option.some.inj H
            have p335 : 0 ≤ (x17_2 : Int) := of_decide_eq_true (by first | (with_reducible assumption) | assumption)
            have q335 : x17_2 < (l1.length : Int) := of_decide_eq_true (by first | (with_reducible assumption) | assumption)
            obtain ⟨ad335, e335, hx335_0, hx335_1, hx335_2, hx335_3⟩ := at_T84 HR1.out x17_2 p335 q335
            cases e335
            replace hx335_0 := (HB.out.cell (World.block_lt_of_cell? w _ hx335_0)).trans hx335_0
            replace hx335_1 := (HB.out.cell (World.block_lt_of_cell? w _ hx335_1)).trans hx335_1
            replace hx335_2 := (HB.out.cell (World.block_lt_of_cell? w _ hx335_2)).trans hx335_2
            replace hx335_3 := (HB.out.cell (World.block_lt_of_cell? w _ hx335_3)).trans hx335_3
            replace p335 := eq_true p335
            replace q335 := eq_true q335
            try go_wp2_with (first | ((with_reducible refine gate_dst (N := 6) rfl ?_); (try (refine gate_guard (by rfl) ?_; dsimp only)); refine box_event ?hg (N := 6) ?hd (cs := #[.int .i64 0, .int .i64 0, .int .i64 0, .bool false]) (t := 84) ?hr ?_; (case hd => rfl); (case hg => rfl); (case hr => first | (go_simp; done) | (go_simp; rfl)); intro gb336 hg w32 hbox hb; have n0_ := Aside0.mk (bb (g := gb332) (by first | (with_reducible exact BK332.out) | (with_reducible exact bN BK332.out _) | (with_reducible exact bd BK332.out) | ((with_reducible repeat first | apply bN | apply bd | apply ba); exact BK332.out)) hb); have n1_ := Aside0.mk (below_step (by repeat (first | (with_reducible first | exact HB.out | apply wa | apply wN | apply wd | refine ws ?_ GE332.out) | exact HB.out)) hb); have n2_ := Aside0.mk (hbox); have n3_ := Aside0.mk ((by rw [hg]; exact (below_size (by repeat (first | (with_reducible first | exact HB.out | apply wa | apply wN | apply wd | refine ws ?_ GE332.out) | exact HB.out))) : w.heap.size ≤ gb336)); have n4_ := n3_; have n5_ := Aside0.mk ((by rw [hg]; exact Nat.ne_of_lt (blk_lt (g := gb332) (by (with_reducible repeat first | apply bN | apply bd | apply ba); exact BK332.out)) : gb332 ≠ gb336)); have n6_ := Aside0.mk ((by rw [hg]; exact Nat.ne_of_gt (blk_lt (g := gb332) (by (with_reducible repeat first | apply bN | apply bd | apply ba); exact BK332.out)) : gb336 ≠ gb332)); clear BK332; clear HB; have BK332 := n0_; have HB := n1_; have BK336 := n2_; have GW336 := n3_; have GE336 := n4_; have NB332_336 := n5_; have NB336_332 := n6_; clear n0_ n1_ n2_ n3_ n4_ n5_ n6_; clear hb hbox hg; have hnb33 := NB336_332.out; have hnc33 := NB332_336.out; have hcz34_0 : w32.cell? ⟨gb336, 0, none⟩ = some (.int .i64 0) := (bc BK336.out 0).trans rfl; have hcz34_1 : w32.cell? ⟨gb336, 1, none⟩ = some (.int .i64 0) := (bc BK336.out 1).trans rfl; have hcz34_2 : w32.cell? ⟨gb336, 2, none⟩ = some (.int .i64 0) := (bc BK336.out 2).trans rfl; have hcz34_3 : w32.cell? ⟨gb336, 3, none⟩ = some (.bool false) := (bc BK336.out 3).trans rfl; have hfz34_0 := bz BK336.out 0; have hfz34_1 := bz BK336.out 1; have hfz34_2 := bz BK336.out 2; have hfz34_3 := bz BK336.out 3))
            have n0_ : Aside0 (((((w32.setCell ⟨gb336, 0, none⟩ (.int .i64 ((rd_T84 l1 x17_2).f0))).setCell ⟨gb336, 1, none⟩ (.int .i64 ((rd_T84 l1 x17_2).f1))).setCell ⟨gb336, 2, none⟩ (.int .i64 ((rd_T84 l1 x17_2).f2))).setCell ⟨gb336, 3, none⟩ (.bool ((rd_T84 l1 x17_2).f3))).heap[gb332]? = some (.cells #[.int .i64 a0_0, .int .i64 a0_1, .string a0_2] 27 (0, 0))) := ⟨by (with_reducible repeat first | apply bN | apply bd | apply ba); refine blk_far ?_ NB332_336.out _; (with_reducible repeat first | apply bN | apply bd | apply ba); refine blk_far ?_ NB332_336.out _; (with_reducible repeat first | apply bN | apply bd | apply ba); refine blk_far ?_ NB332_336.out _; (with_reducible repeat first | apply bN | apply bd | apply ba); refine blk_far ?_ NB332_336.out _; (with_reducible repeat first | apply bN | apply bd | apply ba); exact BK332.out⟩
            have n1_ : Aside0 (((((w32.setCell ⟨gb336, 0, none⟩ (.int .i64 ((rd_T84 l1 x17_2).f0))).setCell ⟨gb336, 1, none⟩ (.int .i64 ((rd_T84 l1 x17_2).f1))).setCell ⟨gb336, 2, none⟩ (.int .i64 ((rd_T84 l1 x17_2).f2))).setCell ⟨gb336, 3, none⟩ (.bool ((rd_T84 l1 x17_2).f3))).heap[gb336]? = some (.cells #[.int .i64 ((rd_T84 l1 x17_2).f0), .int .i64 ((rd_T84 l1 x17_2).f1), .int .i64 ((rd_T84 l1 x17_2).f2), .bool ((rd_T84 l1 x17_2).f3)] 84 (0, 0))) := ⟨by (with_reducible repeat first | apply bN | apply bd | apply ba); refine blk_put (cs := #[.int .i64 ((rd_T84 l1 x17_2).f0), .int .i64 ((rd_T84 l1 x17_2).f1), .int .i64 ((rd_T84 l1 x17_2).f2), .bool false]) ?_ 3 _ rfl; (with_reducible repeat first | apply bN | apply bd | apply ba); refine blk_put (cs := #[.int .i64 ((rd_T84 l1 x17_2).f0), .int .i64 ((rd_T84 l1 x17_2).f1), .int .i64 0, .bool false]) ?_ 2 _ rfl; (with_reducible repeat first | apply bN | apply bd | apply ba); refine blk_put (cs := #[.int .i64 ((rd_T84 l1 x17_2).f0), .int .i64 0, .int .i64 0, .bool false]) ?_ 1 _ rfl; (with_reducible repeat first | apply bN | apply bd | apply ba); refine blk_put (cs := #[.int .i64 0, .int .i64 0, .int .i64 0, .bool false]) ?_ 0 _ rfl; (with_reducible repeat first | apply bN | apply bd | apply ba); exact BK336.out⟩
            have n2_ : Aside0 (Below w.heap.size w ((((w32.setCell ⟨gb336, 0, none⟩ (.int .i64 ((rd_T84 l1 x17_2).f0))).setCell ⟨gb336, 1, none⟩ (.int .i64 ((rd_T84 l1 x17_2).f1))).setCell ⟨gb336, 2, none⟩ (.int .i64 ((rd_T84 l1 x17_2).f2))).setCell ⟨gb336, 3, none⟩ (.bool ((rd_T84 l1 x17_2).f3)))) := ⟨by repeat (first | (with_reducible first | exact HB.out | apply wa | apply wN | apply wd | refine ws ?_ GE332.out | refine ws ?_ GE336.out) | exact HB.out)⟩
            (try clear BK332)
            (try clear BK336)
            (try clear HB)
            (first | (rw [show World.drewN ((((w32.setCell ⟨gb336, 0, none⟩ (.int .i64 ((rd_T84 l1 x17_2).f0))).setCell ⟨gb336, 1, none⟩ (.int .i64 ((rd_T84 l1 x17_2).f1))).setCell ⟨gb336, 2, none⟩ (.int .i64 ((rd_T84 l1 x17_2).f2))).setCell ⟨gb336, 3, none⟩ (.bool ((rd_T84 l1 x17_2).f3))) nd = World.drewN ((((w32.setCell ⟨gb336, 0, none⟩ (.int .i64 ((rd_T84 l1 x17_2).f0))).setCell ⟨gb336, 1, none⟩ (.int .i64 ((rd_T84 l1 x17_2).f1))).setCell ⟨gb336, 2, none⟩ (.int .i64 ((rd_T84 l1 x17_2).f2))).setCell ⟨gb336, 3, none⟩ (.bool ((rd_T84 l1 x17_2).f3))) nd from rfl]; have p0_ := Aside0.mk (bN n0_.out nd); have p1_ := Aside0.mk (bN n1_.out nd); have p2_ := Aside0.mk (wN n2_.out nd); generalize World.drewN ((((w32.setCell ⟨gb336, 0, none⟩ (.int .i64 ((rd_T84 l1 x17_2).f0))).setCell ⟨gb336, 1, none⟩ (.int .i64 ((rd_T84 l1 x17_2).f1))).setCell ⟨gb336, 2, none⟩ (.int .i64 ((rd_T84 l1 x17_2).f2))).setCell ⟨gb336, 3, none⟩ (.bool ((rd_T84 l1 x17_2).f3))) nd = w35 at p0_ p1_ p2_ ⊢; clear n0_ n1_ n2_; have n0_ := p0_; have n1_ := p1_; have n2_ := p2_; clear p0_ p1_ p2_) | generalize ((((w32.setCell ⟨gb336, 0, none⟩ (.int .i64 ((rd_T84 l1 x17_2).f0))).setCell ⟨gb336, 1, none⟩ (.int .i64 ((rd_T84 l1 x17_2).f1))).setCell ⟨gb336, 2, none⟩ (.int .i64 ((rd_T84 l1 x17_2).f2))).setCell ⟨gb336, 3, none⟩ (.bool ((rd_T84 l1 x17_2).f3))) = w35 at n0_ n1_ n2_ ⊢)
            have BK332 := n0_
            have BK336 := n1_
            have HB := n2_
            clear n0_ n1_ n2_
            have n0_ := Aside0.mk (bd BK332.out)
            have n1_ := Aside0.mk (bd BK336.out)
            have n2_ := Aside0.mk (wd HB.out)
            clear BK332
            clear BK336
            clear HB
            have BK332 := n0_
            have BK336 := n1_
            have HB := n2_
            clear n0_ n1_ n2_
            have p337 : 0 ≤ ((ji28) : Int) := of_decide_eq_true (by first | (with_reducible assumption) | assumption)
            have q337 : (ji28) < (l1.length : Int) := of_decide_eq_true (by first | (with_reducible assumption) | assumption)
            obtain ⟨ad337, e337, hx337_0, hx337_1, hx337_2, hx337_3⟩ := at_T84 HR1.out (ji28) p337 q337
            have hw337_3 := hx337_3
            have hw337_2 := hx337_2
            have hw337_1 := hx337_1
            have hw337_0 := hx337_0
            obtain rfl : ad335 = ad337 := (by injection e337)
            replace hx337_0 := (HB.out.cell (World.block_lt_of_cell? w _ hx337_0)).trans hx337_0
            replace hx337_1 := (HB.out.cell (World.block_lt_of_cell? w _ hx337_1)).trans hx337_1
            replace hx337_2 := (HB.out.cell (World.block_lt_of_cell? w _ hx337_2)).trans hx337_2
            replace hx337_3 := (HB.out.cell (World.block_lt_of_cell? w _ hx337_3)).trans hx337_3
            replace p337 := eq_true p337
            replace q337 := eq_true q337
            refine start_ (n := 44) (S := fun w' => w'.cell? ⟨gb336, 0, none⟩ = some (.int .i64 ((rd_T84 l1 x17_2).f0)) ∧ w'.cell? ⟨gb336, 1, none⟩ = some (.int .i64 ((rd_T84 l1 x17_2).f1)) ∧ w'.cell? ⟨gb336, 2, none⟩ = some (.int .i64 ((rd_T84 l1 x17_2).f2)) ∧ w'.cell? ⟨gb336, 3, none⟩ = some (.bool ((rd_T84 l1 x17_2).f3)) ∧ w'.cell? (ad335.add (((ji28)).toNat * 4)) = some (.int .i64 ((rd_T84 l1 (ji28)).f0)) ∧ w'.cell? ⟨(ad335.add (((ji28)).toNat * 4)).block, (ad335.add (((ji28)).toNat * 4)).off + 1, none⟩ = some (.int .i64 ((rd_T84 l1 (ji28)).f1)) ∧ w'.cell? ⟨(ad335.add (((ji28)).toNat * 4)).block, (ad335.add (((ji28)).toNat * 4)).off + 2, none⟩ = some (.int .i64 ((rd_T84 l1 (ji28)).f2)) ∧ w'.cell? ⟨(ad335.add (((ji28)).toNat * 4)).block, (ad335.add (((ji28)).toNat * 4)).off + 3, none⟩ = some (.bool ((rd_T84 l1 (ji28)).f3))) (ds := []) #[false, false, false, false, false, false, false, false, false, false, false, false, false, false, false, false, false, false, false, false, false, false, false, false, false, false, false, false, false, false, false, false, false, false, false, false, false, false, false, false, false, false, false, false] (by kernel_rfl) rfl rfl ⟨(bc BK336.out 0).trans rfl, (bc BK336.out 1).trans rfl, (bc BK336.out 2).trans rfl, (bc BK336.out 3).trans rfl, ((HB.out.cell (World.block_lt_of_cell? w _ hw337_0)).trans hw337_0), ((HB.out.cell (World.block_lt_of_cell? w _ hw337_1)).trans hw337_1), ((HB.out.cell (World.block_lt_of_cell? w _ hw337_2)).trans hw337_2), ((HB.out.cell (World.block_lt_of_cell? w _ hw337_3)).trans hw337_3)⟩ (fun hHeld => ?_); refine with_tabW impl_RobotsOk.tab6 impl_RobotsOk.bits6 (fun HT_ HW_ => ?_)
            generalize w35.drew = w36 at BK332 BK336 HB hx337_0 hx337_1 hx337_2 hx337_3 hHeld ⊢
            refine plan_ [(0, 22, 0), (1, 23, 2), (2, 24, 0), (3, 25, 0), (4, 26, 0), (5, 27, 2), (6, 28, 0), (7, 29, 0), (8, 30, 0), (9, 31, 0), (10, 32, 0), (11, 33, 0), (12, 34, 0), (13, 35, 0), (14, 36, 0), (15, 37, 0), (16, 38, 0), (18, 40, 0), (17, 39, 2), (19, 41, 2), (20, 42, 0), (21, 43, 0), (22, 44, 0), (23, 45, 0), (24, 46, 1), (25, 47, 1), (26, 48, 1), (27, 49, 1), (28, 50, 1), (29, 51, 0), (30, 52, 0), (31, 53, 1), (32, 54, 1), (33, 55, 1), (34, 56, 1), (35, 57, 1), (36, 58, 1), (37, 59, 1), (38, 60, 1), (39, 61, 1), (40, 62, 1), (41, 63, 1), (42, 64, 1), (43, 65, 0)] ?_
            repeat (first | (refine p0_ (v := ?_) (a' := ?_) HT_.out (by rfl) (by rfl) (by rfl) (by kernel_rfl) (by exact fun _ _ _ h => h) (Or.inl ⟨by rfl, ?_⟩) ?_ ?_; rotate_left; (· (intro w'; go_simp; with_reducible rfl)); rotate_left; (· (simp only [Act.put, List.setIfInBounds_toArray, List.set_cons_zero, List.set_cons_succ, i64_w, i32_w]; rfl))) | (refine p1_ (a' := ?_) HT_.out (by rfl) (by rfl) (by rfl) (by kernel_rfl) (by exact fun _ _ _ h => h) (Or.inr ⟨by rfl, rfl⟩) ?_ ?_; rotate_left; (· (simp only [Act.put, List.setIfInBounds_toArray, List.set_cons_zero, List.set_cons_succ, i64_w, i32_w]; rfl))) | (refine p2_ (v := ?_) (a' := ?_) HT_.out HW_.out (by rfl) (by rfl) (by rfl) (by kernel_rfl) (by exact fun _ _ _ h => h) (Or.inl ⟨by rfl, ?_⟩) hHeld ?_ ?_; rotate_left; (· (rintro w' ⟨s0, s1, s2, s3, s4, s5, s6, s7⟩; go_simp; with_reducible rfl)); rotate_left; (· (simp only [Act.put, List.setIfInBounds_toArray, List.set_cons_zero, List.set_cons_succ, i64_w, i32_w]; rfl))))
            with_reducible refine end_ ?_
            refine done_ (done_of HT_.out (by kernel_rfl)) ?_
            try go_wp2
            go_ret
            exact ⟨by first | rfl | (simp [errW_none, errW_some] <;> rfl) | (simp only [← hji28]; first | rfl | (simp [errW_none, errW_some] <;> rfl)) | (simp [*, errW_none, errW_some] <;> rfl), by repeat (first | (with_reducible first | exact HB.out | apply wa | apply wN | apply wd | refine ws ?_ GE332.out | refine ws ?_ GE336.out) | exact HB.out)⟩
          rw [if_neg c31] at H
          have c31b0 : decide (((rd_T84 l1 x17_2).f0) ≤ ((rd_T84 l1 (ji28)).f0)) = false := decide_eq_false c31
          clear c31
          replace H := Option.bind_eq_some_iff.mp H
          obtain ⟨t338, A370, H⟩ := H
          replace H : (if t338 = true then (if ((rd_T84 l1 x17_2).f2) = (-1) then (impl_RobotsOk.l0 k2 l1 l1 (l1.length : Int) (wrap64 (x17_2 + 1)) a0_0 a0_1 a0_2) else ((impl_Beside.f k2 a0_0 a0_1 a0_2 ((rd_T84 l1 x17_2).f1) ((rd_T84 l1 x17_2).f2)).bind fun t339 => (if t339 = true then (impl_RobotsOk.l0 k2 l1 l1 (l1.length : Int) (wrap64 (x17_2 + 1)) a0_0 a0_1 a0_2) else (some false)))) else (some false)) = some r := H
          have A37 := Aside0.mk A370
          clear A370
          by_cases c38 : t338 = true
          rotate_left
          · replace c38 := Bool.eq_false_iff.mpr c38
            subst c38
            have H1 : (some false) = some r := by rw [if_neg (show ¬ (false = true) by decide)] at H; exact H
            clear H
            have H := H1
            clear H1
            obtain rfl := Option.some.inj H
            have p335 : 0 ≤ (x17_2 : Int) := of_decide_eq_true (by first | (with_reducible assumption) | assumption)
            have q335 : x17_2 < (l1.length : Int) := of_decide_eq_true (by first | (with_reducible assumption) | assumption)
            obtain ⟨ad335, e335, hx335_0, hx335_1, hx335_2, hx335_3⟩ := at_T84 HR1.out x17_2 p335 q335
            cases e335
            replace hx335_0 := (HB.out.cell (World.block_lt_of_cell? w _ hx335_0)).trans hx335_0
            replace hx335_1 := (HB.out.cell (World.block_lt_of_cell? w _ hx335_1)).trans hx335_1
            replace hx335_2 := (HB.out.cell (World.block_lt_of_cell? w _ hx335_2)).trans hx335_2
            replace hx335_3 := (HB.out.cell (World.block_lt_of_cell? w _ hx335_3)).trans hx335_3
            replace p335 := eq_true p335
            replace q335 := eq_true q335
            try go_wp2_with (first | ((with_reducible refine gate_dst (N := 6) rfl ?_); (try (refine gate_guard (by rfl) ?_; dsimp only)); refine box_event ?hg (N := 6) ?hd (cs := #[.int .i64 0, .int .i64 0, .int .i64 0, .bool false]) (t := 84) ?hr ?_; (case hd => rfl); (case hg => rfl); (case hr => first | (go_simp; done) | (go_simp; rfl)); intro gb336 hg w62 hbox hb; have n0_ := Aside0.mk (bb (g := gb332) (by first | (with_reducible exact BK332.out) | (with_reducible exact bN BK332.out _) | (with_reducible exact bd BK332.out) | ((with_reducible repeat first | apply bN | apply bd | apply ba); exact BK332.out)) hb); have n1_ := Aside0.mk (below_step (by repeat (first | (with_reducible first | exact HB.out | apply wa | apply wN | apply wd | refine ws ?_ GE332.out) | exact HB.out)) hb); have n2_ := Aside0.mk (hbox); have n3_ := Aside0.mk ((by rw [hg]; exact (below_size (by repeat (first | (with_reducible first | exact HB.out | apply wa | apply wN | apply wd | refine ws ?_ GE332.out) | exact HB.out))) : w.heap.size ≤ gb336)); have n4_ := n3_; have n5_ := Aside0.mk ((by rw [hg]; exact Nat.ne_of_lt (blk_lt (g := gb332) (by (with_reducible repeat first | apply bN | apply bd | apply ba); exact BK332.out)) : gb332 ≠ gb336)); have n6_ := Aside0.mk ((by rw [hg]; exact Nat.ne_of_gt (blk_lt (g := gb332) (by (with_reducible repeat first | apply bN | apply bd | apply ba); exact BK332.out)) : gb336 ≠ gb332)); clear BK332; clear HB; have BK332 := n0_; have HB := n1_; have BK336 := n2_; have GW336 := n3_; have GE336 := n4_; have NB332_336 := n5_; have NB336_332 := n6_; clear n0_ n1_ n2_ n3_ n4_ n5_ n6_; clear hb hbox hg; have hnb63 := NB336_332.out; have hnc63 := NB332_336.out; have hcz64_0 : w62.cell? ⟨gb336, 0, none⟩ = some (.int .i64 0) := (bc BK336.out 0).trans rfl; have hcz64_1 : w62.cell? ⟨gb336, 1, none⟩ = some (.int .i64 0) := (bc BK336.out 1).trans rfl; have hcz64_2 : w62.cell? ⟨gb336, 2, none⟩ = some (.int .i64 0) := (bc BK336.out 2).trans rfl; have hcz64_3 : w62.cell? ⟨gb336, 3, none⟩ = some (.bool false) := (bc BK336.out 3).trans rfl; have hfz64_0 := bz BK336.out 0; have hfz64_1 := bz BK336.out 1; have hfz64_2 := bz BK336.out 2; have hfz64_3 := bz BK336.out 3))
            have n0_ : Aside0 (((((w62.setCell ⟨gb336, 0, none⟩ (.int .i64 ((rd_T84 l1 x17_2).f0))).setCell ⟨gb336, 1, none⟩ (.int .i64 ((rd_T84 l1 x17_2).f1))).setCell ⟨gb336, 2, none⟩ (.int .i64 ((rd_T84 l1 x17_2).f2))).setCell ⟨gb336, 3, none⟩ (.bool ((rd_T84 l1 x17_2).f3))).heap[gb332]? = some (.cells #[.int .i64 a0_0, .int .i64 a0_1, .string a0_2] 27 (0, 0))) := ⟨by (with_reducible repeat first | apply bN | apply bd | apply ba); refine blk_far ?_ NB332_336.out _; (with_reducible repeat first | apply bN | apply bd | apply ba); refine blk_far ?_ NB332_336.out _; (with_reducible repeat first | apply bN | apply bd | apply ba); refine blk_far ?_ NB332_336.out _; (with_reducible repeat first | apply bN | apply bd | apply ba); refine blk_far ?_ NB332_336.out _; (with_reducible repeat first | apply bN | apply bd | apply ba); exact BK332.out⟩
            have n1_ : Aside0 (((((w62.setCell ⟨gb336, 0, none⟩ (.int .i64 ((rd_T84 l1 x17_2).f0))).setCell ⟨gb336, 1, none⟩ (.int .i64 ((rd_T84 l1 x17_2).f1))).setCell ⟨gb336, 2, none⟩ (.int .i64 ((rd_T84 l1 x17_2).f2))).setCell ⟨gb336, 3, none⟩ (.bool ((rd_T84 l1 x17_2).f3))).heap[gb336]? = some (.cells #[.int .i64 ((rd_T84 l1 x17_2).f0), .int .i64 ((rd_T84 l1 x17_2).f1), .int .i64 ((rd_T84 l1 x17_2).f2), .bool ((rd_T84 l1 x17_2).f3)] 84 (0, 0))) := ⟨by (with_reducible repeat first | apply bN | apply bd | apply ba); refine blk_put (cs := #[.int .i64 ((rd_T84 l1 x17_2).f0), .int .i64 ((rd_T84 l1 x17_2).f1), .int .i64 ((rd_T84 l1 x17_2).f2), .bool false]) ?_ 3 _ rfl; (with_reducible repeat first | apply bN | apply bd | apply ba); refine blk_put (cs := #[.int .i64 ((rd_T84 l1 x17_2).f0), .int .i64 ((rd_T84 l1 x17_2).f1), .int .i64 0, .bool false]) ?_ 2 _ rfl; (with_reducible repeat first | apply bN | apply bd | apply ba); refine blk_put (cs := #[.int .i64 ((rd_T84 l1 x17_2).f0), .int .i64 0, .int .i64 0, .bool false]) ?_ 1 _ rfl; (with_reducible repeat first | apply bN | apply bd | apply ba); refine blk_put (cs := #[.int .i64 0, .int .i64 0, .int .i64 0, .bool false]) ?_ 0 _ rfl; (with_reducible repeat first | apply bN | apply bd | apply ba); exact BK336.out⟩
            have n2_ : Aside0 (Below w.heap.size w ((((w62.setCell ⟨gb336, 0, none⟩ (.int .i64 ((rd_T84 l1 x17_2).f0))).setCell ⟨gb336, 1, none⟩ (.int .i64 ((rd_T84 l1 x17_2).f1))).setCell ⟨gb336, 2, none⟩ (.int .i64 ((rd_T84 l1 x17_2).f2))).setCell ⟨gb336, 3, none⟩ (.bool ((rd_T84 l1 x17_2).f3)))) := ⟨by repeat (first | (with_reducible first | exact HB.out | apply wa | apply wN | apply wd | refine ws ?_ GE332.out | refine ws ?_ GE336.out) | exact HB.out)⟩
            (try clear BK332)
            (try clear BK336)
            (try clear HB)
            (first | (rw [show World.drewN ((((w62.setCell ⟨gb336, 0, none⟩ (.int .i64 ((rd_T84 l1 x17_2).f0))).setCell ⟨gb336, 1, none⟩ (.int .i64 ((rd_T84 l1 x17_2).f1))).setCell ⟨gb336, 2, none⟩ (.int .i64 ((rd_T84 l1 x17_2).f2))).setCell ⟨gb336, 3, none⟩ (.bool ((rd_T84 l1 x17_2).f3))) nd = World.drewN ((((w62.setCell ⟨gb336, 0, none⟩ (.int .i64 ((rd_T84 l1 x17_2).f0))).setCell ⟨gb336, 1, none⟩ (.int .i64 ((rd_T84 l1 x17_2).f1))).setCell ⟨gb336, 2, none⟩ (.int .i64 ((rd_T84 l1 x17_2).f2))).setCell ⟨gb336, 3, none⟩ (.bool ((rd_T84 l1 x17_2).f3))) nd from rfl]; have p0_ := Aside0.mk (bN n0_.out nd); have p1_ := Aside0.mk (bN n1_.out nd); have p2_ := Aside0.mk (wN n2_.out nd); generalize World.drewN ((((w62.setCell ⟨gb336, 0, none⟩ (.int .i64 ((rd_T84 l1 x17_2).f0))).setCell ⟨gb336, 1, none⟩ (.int .i64 ((rd_T84 l1 x17_2).f1))).setCell ⟨gb336, 2, none⟩ (.int .i64 ((rd_T84 l1 x17_2).f2))).setCell ⟨gb336, 3, none⟩ (.bool ((rd_T84 l1 x17_2).f3))) nd = w65 at p0_ p1_ p2_ ⊢; clear n0_ n1_ n2_; have n0_ := p0_; have n1_ := p1_; have n2_ := p2_; clear p0_ p1_ p2_) | generalize ((((w62.setCell ⟨gb336, 0, none⟩ (.int .i64 ((rd_T84 l1 x17_2).f0))).setCell ⟨gb336, 1, none⟩ (.int .i64 ((rd_T84 l1 x17_2).f1))).setCell ⟨gb336, 2, none⟩ (.int .i64 ((rd_T84 l1 x17_2).f2))).setCell ⟨gb336, 3, none⟩ (.bool ((rd_T84 l1 x17_2).f3))) = w65 at n0_ n1_ n2_ ⊢)
            have BK332 := n0_
            have BK336 := n1_
            have HB := n2_
            clear n0_ n1_ n2_
            have n0_ := Aside0.mk (bd BK332.out)
            have n1_ := Aside0.mk (bd BK336.out)
            have n2_ := Aside0.mk (wd HB.out)
            clear BK332
            clear BK336
            clear HB
            have BK332 := n0_
            have BK336 := n1_
            have HB := n2_
            clear n0_ n1_ n2_
            have p337 : 0 ≤ ((ji28) : Int) := of_decide_eq_true (by first | (with_reducible assumption) | assumption)
            have q337 : (ji28) < (l1.length : Int) := of_decide_eq_true (by first | (with_reducible assumption) | assumption)
            obtain ⟨ad337, e337, hx337_0, hx337_1, hx337_2, hx337_3⟩ := at_T84 HR1.out (ji28) p337 q337
            have hw337_3 := hx337_3
            have hw337_2 := hx337_2
            have hw337_1 := hx337_1
            have hw337_0 := hx337_0
            obtain rfl : ad335 = ad337 := (by injection e337)
            replace hx337_0 := (HB.out.cell (World.block_lt_of_cell? w _ hx337_0)).trans hx337_0
            replace hx337_1 := (HB.out.cell (World.block_lt_of_cell? w _ hx337_1)).trans hx337_1
            replace hx337_2 := (HB.out.cell (World.block_lt_of_cell? w _ hx337_2)).trans hx337_2
            replace hx337_3 := (HB.out.cell (World.block_lt_of_cell? w _ hx337_3)).trans hx337_3
            replace p337 := eq_true p337
            replace q337 := eq_true q337
            refine start_ (n := 44) (S := fun w' => w'.cell? ⟨gb336, 0, none⟩ = some (.int .i64 ((rd_T84 l1 x17_2).f0)) ∧ w'.cell? ⟨gb336, 1, none⟩ = some (.int .i64 ((rd_T84 l1 x17_2).f1)) ∧ w'.cell? ⟨gb336, 2, none⟩ = some (.int .i64 ((rd_T84 l1 x17_2).f2)) ∧ w'.cell? ⟨gb336, 3, none⟩ = some (.bool ((rd_T84 l1 x17_2).f3)) ∧ w'.cell? ⟨gb332, 0, none⟩ = some (.int .i64 a0_0) ∧ w'.cell? ⟨gb332, 1, none⟩ = some (.int .i64 a0_1) ∧ w'.cell? ⟨gb332, 2, none⟩ = some (.string a0_2) ∧ w'.cell? (ad335.add (((ji28)).toNat * 4)) = some (.int .i64 ((rd_T84 l1 (ji28)).f0)) ∧ w'.cell? ⟨(ad335.add (((ji28)).toNat * 4)).block, (ad335.add (((ji28)).toNat * 4)).off + 1, none⟩ = some (.int .i64 ((rd_T84 l1 (ji28)).f1)) ∧ w'.cell? ⟨(ad335.add (((ji28)).toNat * 4)).block, (ad335.add (((ji28)).toNat * 4)).off + 2, none⟩ = some (.int .i64 ((rd_T84 l1 (ji28)).f2)) ∧ w'.cell? ⟨(ad335.add (((ji28)).toNat * 4)).block, (ad335.add (((ji28)).toNat * 4)).off + 3, none⟩ = some (.bool ((rd_T84 l1 (ji28)).f3))) (ds := []) #[false, false, false, false, false, false, false, false, false, false, false, false, false, false, false, false, false, false, false, false, false, false, false, false, false, false, false, false, false, false, false, false, false, false, false, false, false, false, false, false, false, false, false, false] (by kernel_rfl) rfl rfl ⟨(bc BK336.out 0).trans rfl, (bc BK336.out 1).trans rfl, (bc BK336.out 2).trans rfl, (bc BK336.out 3).trans rfl, (bc BK332.out 0).trans rfl, (bc BK332.out 1).trans rfl, (bc BK332.out 2).trans rfl, ((HB.out.cell (World.block_lt_of_cell? w _ hw337_0)).trans hw337_0), ((HB.out.cell (World.block_lt_of_cell? w _ hw337_1)).trans hw337_1), ((HB.out.cell (World.block_lt_of_cell? w _ hw337_2)).trans hw337_2), ((HB.out.cell (World.block_lt_of_cell? w _ hw337_3)).trans hw337_3)⟩ (fun hHeld => ?_); refine with_tabW impl_RobotsOk.tab6 impl_RobotsOk.bits6 (fun HT_ HW_ => ?_)
            generalize w65.drew = w66 at BK332 BK336 HB hx337_0 hx337_1 hx337_2 hx337_3 hHeld ⊢
            refine plan_ [(0, 22, 0), (1, 23, 2), (2, 24, 0), (3, 25, 0), (4, 26, 0), (5, 27, 2), (6, 28, 0), (7, 29, 0), (8, 30, 0), (9, 31, 0), (10, 32, 0), (11, 33, 0), (12, 34, 0), (13, 35, 0), (14, 36, 0), (15, 37, 0), (16, 38, 0), (18, 40, 0), (17, 39, 2), (19, 41, 2), (20, 42, 0), (21, 43, 0), (22, 44, 0), (23, 45, 0), (25, 47, 0), (24, 46, 2), (26, 48, 2)] ?_
            repeat (first | (refine p0_ (v := ?_) (a' := ?_) HT_.out (by rfl) (by rfl) (by rfl) (by kernel_rfl) (by exact fun _ _ _ h => h) (Or.inl ⟨by rfl, ?_⟩) ?_ ?_; rotate_left; (· (intro w'; go_simp; with_reducible rfl)); rotate_left; (· (simp only [Act.put, List.setIfInBounds_toArray, List.set_cons_zero, List.set_cons_succ, i64_w, i32_w]; rfl))) | (refine p2_ (v := ?_) (a' := ?_) HT_.out HW_.out (by rfl) (by rfl) (by rfl) (by kernel_rfl) (by exact fun _ _ _ h => h) (Or.inl ⟨by rfl, ?_⟩) hHeld ?_ ?_; rotate_left; (· (rintro w' ⟨s0, s1, s2, s3, s4, s5, s6, s7, s8, s9, s10⟩; go_simp; with_reducible rfl)); rotate_left; (· (simp only [Act.put, List.setIfInBounds_toArray, List.set_cons_zero, List.set_cons_succ, i64_w, i32_w]; rfl))))
            with_reducible refine end_ ?_
            refine one_ (i := 27) (N := some 49) #[true, true, true, true, true, true, true, true, true, true, true, true, true, true, true, true, true, true, true, true, true, true, true, true, true, true, true, true, false, false, false, false, false, false, false, false, false, false, false, false, false, false, false, false] rfl rfl (one_of HT_.out (by kernel_rfl)) (by decide) (fun K hK => ?_)
            refine goes_ Try.func95 (by kernel_rfl) rfl #[.agg #[.int .i64 a0_0, .int .i64 a0_1, .string a0_2], .int .i64 ((rd_T84 l1 x17_2).f1)] (by rfl) rfl rfl (by (try simp only [List.map_toArray, List.map_cons, List.map_nil]); first | done | rfl | (simp only [List.length_drop, List.length_take]; rfl)) ?_
            with_reducible refine (impl_isFree.calls a0_0 a0_1 a0_2 ((rd_T84 l1 x17_2).f1) false _ A37.out).mono ?_
            rintro e w67 ⟨rfl, hb⟩
            refine ⟨_, rfl, ?_⟩
            have n0_ := Aside0.mk (bb (g := gb332) (by first | (with_reducible exact BK332.out) | (with_reducible exact bN BK332.out _) | (with_reducible exact bd BK332.out) | ((with_reducible repeat first | apply bN | apply bd | apply ba); exact BK332.out)) hb)
            have n1_ := Aside0.mk (bb (g := gb336) (by first | (with_reducible exact BK336.out) | (with_reducible exact bN BK336.out _) | (with_reducible exact bd BK336.out) | ((with_reducible repeat first | apply bN | apply bd | apply ba); exact BK336.out)) hb)
            have n2_ := Aside0.mk (below_step (by repeat (first | (with_reducible first | exact HB.out | apply wa | apply wN | apply wd | refine ws ?_ GE332.out | refine ws ?_ GE336.out) | exact HB.out)) hb)
            clear BK332
            clear BK336
            clear HB
            have BK332 := n0_
            have BK336 := n1_
            have HB := n2_
            clear n0_ n1_ n2_
            (try clear hb)
            (try clear hb2)
            (try clear hk)
            (try clear hi)
            refine hK.out _ _ ⟨(bc BK336.out 0).trans rfl, (bc BK336.out 1).trans rfl, (bc BK336.out 2).trans rfl, (bc BK336.out 3).trans rfl, (bc BK332.out 0).trans rfl, (bc BK332.out 1).trans rfl, (bc BK332.out 2).trans rfl, ((HB.out.cell (World.block_lt_of_cell? w _ hw337_0)).trans hw337_0), ((HB.out.cell (World.block_lt_of_cell? w _ hw337_1)).trans hw337_1), ((HB.out.cell (World.block_lt_of_cell? w _ hw337_2)).trans hw337_2), ((HB.out.cell (World.block_lt_of_cell? w _ hw337_3)).trans hw337_3)⟩ (fun hHeld => ?_)
            clear hK K
            refine norm_ (a' := ?_) ?_ ?_
            rotate_left
            · show Act.put _ (some 49) _ = _
              simp only [Act.put, List.setIfInBounds_toArray, List.set_cons_zero, List.set_cons_succ, i64_w, i32_w]
              rfl
            refine plan_ [(28, 50, 0), (29, 51, 0), (30, 52, 0), (31, 53, 1), (32, 54, 1), (33, 55, 1), (34, 56, 1), (35, 57, 1), (36, 58, 1), (37, 59, 1), (38, 60, 1), (39, 61, 1), (40, 62, 1), (41, 63, 1), (42, 64, 1), (43, 65, 0)] ?_
            repeat (first | (refine p0_ (v := ?_) (a' := ?_) HT_.out (by rfl) (by rfl) (by rfl) (by kernel_rfl) (by exact fun _ _ _ h => h) (Or.inl ⟨by rfl, ?_⟩) ?_ ?_; rotate_left; (· (intro w'; go_simp; with_reducible rfl)); rotate_left; (· (simp only [Act.put, List.setIfInBounds_toArray, List.set_cons_zero, List.set_cons_succ, i64_w, i32_w]; rfl))) | (refine p1_ (a' := ?_) HT_.out (by rfl) (by rfl) (by rfl) (by kernel_rfl) (by exact fun _ _ _ h => h) (Or.inr ⟨by rfl, rfl⟩) ?_ ?_; rotate_left; (· (simp only [Act.put, List.setIfInBounds_toArray, List.set_cons_zero, List.set_cons_succ, i64_w, i32_w]; rfl))))
            with_reducible refine end_ ?_
            refine done_ (done_of HT_.out (by kernel_rfl)) ?_
            try go_wp2
            go_ret
            exact ⟨by first | rfl | (simp [errW_none, errW_some] <;> rfl) | (simp only [← hji28]; first | rfl | (simp [errW_none, errW_some] <;> rfl)) | (simp [*, errW_none, errW_some] <;> rfl), by repeat (first | (with_reducible first | exact HB.out | apply wa | apply wN | apply wd | refine ws ?_ GE332.out | refine ws ?_ GE336.out) | exact HB.out)⟩
          subst c38
          have H1 : (if ((rd_T84 l1 x17_2).f2) = (-1) then (impl_RobotsOk.l0 k2 l1 l1 (l1.length : Int) (wrap64 (x17_2 + 1)) a0_0 a0_1 a0_2) else ((impl_Beside.f k2 a0_0 a0_1 a0_2 ((rd_T84 l1 x17_2).f1) ((rd_T84 l1 x17_2).f2)).bind fun t339 => (if t339 = true then (impl_RobotsOk.l0 k2 l1 l1 (l1.length : Int) (wrap64 (x17_2 + 1)) a0_0 a0_1 a0_2) else (some false)))) = some r := by rw [if_pos rfl] at H; exact H
          clear H
          have H := H1
          clear H1
          by_cases c39 : ((rd_T84 l1 x17_2).f2) = (-1)
          · rw [if_pos c39] at H
            have c39b0 : (((rd_T84 l1 x17_2).f2) == (-1)) = true := beq_iff_eq.mpr c39
            have c39b1 : (((rd_T84 l1 x17_2).f2) != (-1)) = false := bne_eq_false_iff_eq.mpr c39
            clear c39
            have H' := Aside0.mk H
            clear H
            have p335 : 0 ≤ (x17_2 : Int) := of_decide_eq_true (by first | (with_reducible assumption) | assumption)
            have q335 : x17_2 < (l1.length : Int) := of_decide_eq_true (by first | (with_reducible assumption) | assumption)
            obtain ⟨ad335, e335, hx335_0, hx335_1, hx335_2, hx335_3⟩ := at_T84 HR1.out x17_2 p335 q335
            cases e335
            replace hx335_0 := (HB.out.cell (World.block_lt_of_cell? w _ hx335_0)).trans hx335_0
            replace hx335_1 := (HB.out.cell (World.block_lt_of_cell? w _ hx335_1)).trans hx335_1
            replace hx335_2 := (HB.out.cell (World.block_lt_of_cell? w _ hx335_2)).trans hx335_2
            replace hx335_3 := (HB.out.cell (World.block_lt_of_cell? w _ hx335_3)).trans hx335_3
            replace p335 := eq_true p335
            replace q335 := eq_true q335
            try go_wp2_with (first | ((with_reducible refine gate_dst (N := 6) rfl ?_); (try (refine gate_guard (by rfl) ?_; dsimp only)); refine box_event ?hg (N := 6) ?hd (cs := #[.int .i64 0, .int .i64 0, .int .i64 0, .bool false]) (t := 84) ?hr ?_; (case hd => rfl); (case hg => rfl); (case hr => first | (go_simp; done) | (go_simp; rfl)); intro gb336 hg w40 hbox hb; have n0_ := Aside0.mk (bb (g := gb332) (by first | (with_reducible exact BK332.out) | (with_reducible exact bN BK332.out _) | (with_reducible exact bd BK332.out) | ((with_reducible repeat first | apply bN | apply bd | apply ba); exact BK332.out)) hb); have n1_ := Aside0.mk (below_step (by repeat (first | (with_reducible first | exact HB.out | apply wa | apply wN | apply wd | refine ws ?_ GE332.out) | exact HB.out)) hb); have n2_ := Aside0.mk (hbox); have n3_ := Aside0.mk ((by rw [hg]; exact (below_size (by repeat (first | (with_reducible first | exact HB.out | apply wa | apply wN | apply wd | refine ws ?_ GE332.out) | exact HB.out))) : w.heap.size ≤ gb336)); have n4_ := n3_; have n5_ := Aside0.mk ((by rw [hg]; exact Nat.ne_of_lt (blk_lt (g := gb332) (by (with_reducible repeat first | apply bN | apply bd | apply ba); exact BK332.out)) : gb332 ≠ gb336)); have n6_ := Aside0.mk ((by rw [hg]; exact Nat.ne_of_gt (blk_lt (g := gb332) (by (with_reducible repeat first | apply bN | apply bd | apply ba); exact BK332.out)) : gb336 ≠ gb332)); clear BK332; clear HB; have BK332 := n0_; have HB := n1_; have BK336 := n2_; have GW336 := n3_; have GE336 := n4_; have NB332_336 := n5_; have NB336_332 := n6_; clear n0_ n1_ n2_ n3_ n4_ n5_ n6_; clear hb hbox hg; have hnb41 := NB336_332.out; have hnc41 := NB332_336.out; have hcz42_0 : w40.cell? ⟨gb336, 0, none⟩ = some (.int .i64 0) := (bc BK336.out 0).trans rfl; have hcz42_1 : w40.cell? ⟨gb336, 1, none⟩ = some (.int .i64 0) := (bc BK336.out 1).trans rfl; have hcz42_2 : w40.cell? ⟨gb336, 2, none⟩ = some (.int .i64 0) := (bc BK336.out 2).trans rfl; have hcz42_3 : w40.cell? ⟨gb336, 3, none⟩ = some (.bool false) := (bc BK336.out 3).trans rfl; have hfz42_0 := bz BK336.out 0; have hfz42_1 := bz BK336.out 1; have hfz42_2 := bz BK336.out 2; have hfz42_3 := bz BK336.out 3))
            have n0_ : Aside0 (((((w40.setCell ⟨gb336, 0, none⟩ (.int .i64 ((rd_T84 l1 x17_2).f0))).setCell ⟨gb336, 1, none⟩ (.int .i64 ((rd_T84 l1 x17_2).f1))).setCell ⟨gb336, 2, none⟩ (.int .i64 ((rd_T84 l1 x17_2).f2))).setCell ⟨gb336, 3, none⟩ (.bool ((rd_T84 l1 x17_2).f3))).heap[gb332]? = some (.cells #[.int .i64 a0_0, .int .i64 a0_1, .string a0_2] 27 (0, 0))) := ⟨by (with_reducible repeat first | apply bN | apply bd | apply ba); refine blk_far ?_ NB332_336.out _; (with_reducible repeat first | apply bN | apply bd | apply ba); refine blk_far ?_ NB332_336.out _; (with_reducible repeat first | apply bN | apply bd | apply ba); refine blk_far ?_ NB332_336.out _; (with_reducible repeat first | apply bN | apply bd | apply ba); refine blk_far ?_ NB332_336.out _; (with_reducible repeat first | apply bN | apply bd | apply ba); exact BK332.out⟩
            have n1_ : Aside0 (((((w40.setCell ⟨gb336, 0, none⟩ (.int .i64 ((rd_T84 l1 x17_2).f0))).setCell ⟨gb336, 1, none⟩ (.int .i64 ((rd_T84 l1 x17_2).f1))).setCell ⟨gb336, 2, none⟩ (.int .i64 ((rd_T84 l1 x17_2).f2))).setCell ⟨gb336, 3, none⟩ (.bool ((rd_T84 l1 x17_2).f3))).heap[gb336]? = some (.cells #[.int .i64 ((rd_T84 l1 x17_2).f0), .int .i64 ((rd_T84 l1 x17_2).f1), .int .i64 ((rd_T84 l1 x17_2).f2), .bool ((rd_T84 l1 x17_2).f3)] 84 (0, 0))) := ⟨by (with_reducible repeat first | apply bN | apply bd | apply ba); refine blk_put (cs := #[.int .i64 ((rd_T84 l1 x17_2).f0), .int .i64 ((rd_T84 l1 x17_2).f1), .int .i64 ((rd_T84 l1 x17_2).f2), .bool false]) ?_ 3 _ rfl; (with_reducible repeat first | apply bN | apply bd | apply ba); refine blk_put (cs := #[.int .i64 ((rd_T84 l1 x17_2).f0), .int .i64 ((rd_T84 l1 x17_2).f1), .int .i64 0, .bool false]) ?_ 2 _ rfl; (with_reducible repeat first | apply bN | apply bd | apply ba); refine blk_put (cs := #[.int .i64 ((rd_T84 l1 x17_2).f0), .int .i64 0, .int .i64 0, .bool false]) ?_ 1 _ rfl; (with_reducible repeat first | apply bN | apply bd | apply ba); refine blk_put (cs := #[.int .i64 0, .int .i64 0, .int .i64 0, .bool false]) ?_ 0 _ rfl; (with_reducible repeat first | apply bN | apply bd | apply ba); exact BK336.out⟩
            have n2_ : Aside0 (Below w.heap.size w ((((w40.setCell ⟨gb336, 0, none⟩ (.int .i64 ((rd_T84 l1 x17_2).f0))).setCell ⟨gb336, 1, none⟩ (.int .i64 ((rd_T84 l1 x17_2).f1))).setCell ⟨gb336, 2, none⟩ (.int .i64 ((rd_T84 l1 x17_2).f2))).setCell ⟨gb336, 3, none⟩ (.bool ((rd_T84 l1 x17_2).f3)))) := ⟨by repeat (first | (with_reducible first | exact HB.out | apply wa | apply wN | apply wd | refine ws ?_ GE332.out | refine ws ?_ GE336.out) | exact HB.out)⟩
            (try clear BK332)
            (try clear BK336)
            (try clear HB)
            (first | (rw [show World.drewN ((((w40.setCell ⟨gb336, 0, none⟩ (.int .i64 ((rd_T84 l1 x17_2).f0))).setCell ⟨gb336, 1, none⟩ (.int .i64 ((rd_T84 l1 x17_2).f1))).setCell ⟨gb336, 2, none⟩ (.int .i64 ((rd_T84 l1 x17_2).f2))).setCell ⟨gb336, 3, none⟩ (.bool ((rd_T84 l1 x17_2).f3))) nd = World.drewN ((((w40.setCell ⟨gb336, 0, none⟩ (.int .i64 ((rd_T84 l1 x17_2).f0))).setCell ⟨gb336, 1, none⟩ (.int .i64 ((rd_T84 l1 x17_2).f1))).setCell ⟨gb336, 2, none⟩ (.int .i64 ((rd_T84 l1 x17_2).f2))).setCell ⟨gb336, 3, none⟩ (.bool ((rd_T84 l1 x17_2).f3))) nd from rfl]; have p0_ := Aside0.mk (bN n0_.out nd); have p1_ := Aside0.mk (bN n1_.out nd); have p2_ := Aside0.mk (wN n2_.out nd); generalize World.drewN ((((w40.setCell ⟨gb336, 0, none⟩ (.int .i64 ((rd_T84 l1 x17_2).f0))).setCell ⟨gb336, 1, none⟩ (.int .i64 ((rd_T84 l1 x17_2).f1))).setCell ⟨gb336, 2, none⟩ (.int .i64 ((rd_T84 l1 x17_2).f2))).setCell ⟨gb336, 3, none⟩ (.bool ((rd_T84 l1 x17_2).f3))) nd = w43 at p0_ p1_ p2_ ⊢; clear n0_ n1_ n2_; have n0_ := p0_; have n1_ := p1_; have n2_ := p2_; clear p0_ p1_ p2_) | generalize ((((w40.setCell ⟨gb336, 0, none⟩ (.int .i64 ((rd_T84 l1 x17_2).f0))).setCell ⟨gb336, 1, none⟩ (.int .i64 ((rd_T84 l1 x17_2).f1))).setCell ⟨gb336, 2, none⟩ (.int .i64 ((rd_T84 l1 x17_2).f2))).setCell ⟨gb336, 3, none⟩ (.bool ((rd_T84 l1 x17_2).f3))) = w43 at n0_ n1_ n2_ ⊢)
            have BK332 := n0_
            have BK336 := n1_
            have HB := n2_
            clear n0_ n1_ n2_
            have n0_ := Aside0.mk (bd BK332.out)
            have n1_ := Aside0.mk (bd BK336.out)
            have n2_ := Aside0.mk (wd HB.out)
            clear BK332
            clear BK336
            clear HB
            have BK332 := n0_
            have BK336 := n1_
            have HB := n2_
            clear n0_ n1_ n2_
            have p337 : 0 ≤ ((ji28) : Int) := of_decide_eq_true (by first | (with_reducible assumption) | assumption)
            have q337 : (ji28) < (l1.length : Int) := of_decide_eq_true (by first | (with_reducible assumption) | assumption)
            obtain ⟨ad337, e337, hx337_0, hx337_1, hx337_2, hx337_3⟩ := at_T84 HR1.out (ji28) p337 q337
            have hw337_3 := hx337_3
            have hw337_2 := hx337_2
            have hw337_1 := hx337_1
            have hw337_0 := hx337_0
            obtain rfl : ad335 = ad337 := (by injection e337)
            replace hx337_0 := (HB.out.cell (World.block_lt_of_cell? w _ hx337_0)).trans hx337_0
            replace hx337_1 := (HB.out.cell (World.block_lt_of_cell? w _ hx337_1)).trans hx337_1
            replace hx337_2 := (HB.out.cell (World.block_lt_of_cell? w _ hx337_2)).trans hx337_2
            replace hx337_3 := (HB.out.cell (World.block_lt_of_cell? w _ hx337_3)).trans hx337_3
            replace p337 := eq_true p337
            replace q337 := eq_true q337
            refine start_ (n := 44) (S := fun w' => w'.cell? ⟨gb336, 0, none⟩ = some (.int .i64 ((rd_T84 l1 x17_2).f0)) ∧ w'.cell? ⟨gb336, 1, none⟩ = some (.int .i64 ((rd_T84 l1 x17_2).f1)) ∧ w'.cell? ⟨gb336, 2, none⟩ = some (.int .i64 ((rd_T84 l1 x17_2).f2)) ∧ w'.cell? ⟨gb336, 3, none⟩ = some (.bool ((rd_T84 l1 x17_2).f3)) ∧ w'.cell? ⟨gb332, 0, none⟩ = some (.int .i64 a0_0) ∧ w'.cell? ⟨gb332, 1, none⟩ = some (.int .i64 a0_1) ∧ w'.cell? ⟨gb332, 2, none⟩ = some (.string a0_2) ∧ w'.cell? (ad335.add (((ji28)).toNat * 4)) = some (.int .i64 ((rd_T84 l1 (ji28)).f0)) ∧ w'.cell? ⟨(ad335.add (((ji28)).toNat * 4)).block, (ad335.add (((ji28)).toNat * 4)).off + 1, none⟩ = some (.int .i64 ((rd_T84 l1 (ji28)).f1)) ∧ w'.cell? ⟨(ad335.add (((ji28)).toNat * 4)).block, (ad335.add (((ji28)).toNat * 4)).off + 2, none⟩ = some (.int .i64 ((rd_T84 l1 (ji28)).f2)) ∧ w'.cell? ⟨(ad335.add (((ji28)).toNat * 4)).block, (ad335.add (((ji28)).toNat * 4)).off + 3, none⟩ = some (.bool ((rd_T84 l1 (ji28)).f3))) (ds := []) #[false, false, false, false, false, false, false, false, false, false, false, false, false, false, false, false, false, false, false, false, false, false, false, false, false, false, false, false, false, false, false, false, false, false, false, false, false, false, false, false, false, false, false, false] (by kernel_rfl) rfl rfl ⟨(bc BK336.out 0).trans rfl, (bc BK336.out 1).trans rfl, (bc BK336.out 2).trans rfl, (bc BK336.out 3).trans rfl, (bc BK332.out 0).trans rfl, (bc BK332.out 1).trans rfl, (bc BK332.out 2).trans rfl, ((HB.out.cell (World.block_lt_of_cell? w _ hw337_0)).trans hw337_0), ((HB.out.cell (World.block_lt_of_cell? w _ hw337_1)).trans hw337_1), ((HB.out.cell (World.block_lt_of_cell? w _ hw337_2)).trans hw337_2), ((HB.out.cell (World.block_lt_of_cell? w _ hw337_3)).trans hw337_3)⟩ (fun hHeld => ?_); refine with_tabW impl_RobotsOk.tab6 impl_RobotsOk.bits6 (fun HT_ HW_ => ?_)
            generalize w43.drew = w44 at BK332 BK336 HB hx337_0 hx337_1 hx337_2 hx337_3 hHeld ⊢
            refine plan_ [(0, 22, 0), (1, 23, 2), (2, 24, 0), (3, 25, 0), (4, 26, 0), (5, 27, 2), (6, 28, 0), (7, 29, 0), (8, 30, 0), (9, 31, 0), (10, 32, 0), (11, 33, 0), (12, 34, 0), (13, 35, 0), (14, 36, 0), (15, 37, 0), (16, 38, 0), (18, 40, 0), (17, 39, 2), (19, 41, 2), (20, 42, 0), (21, 43, 0), (22, 44, 0), (23, 45, 0), (25, 47, 0), (24, 46, 2), (26, 48, 2)] ?_
            repeat (first | (refine p0_ (v := ?_) (a' := ?_) HT_.out (by rfl) (by rfl) (by rfl) (by kernel_rfl) (by exact fun _ _ _ h => h) (Or.inl ⟨by rfl, ?_⟩) ?_ ?_; rotate_left; (· (intro w'; go_simp; with_reducible rfl)); rotate_left; (· (simp only [Act.put, List.setIfInBounds_toArray, List.set_cons_zero, List.set_cons_succ, i64_w, i32_w]; rfl))) | (refine p2_ (v := ?_) (a' := ?_) HT_.out HW_.out (by rfl) (by rfl) (by rfl) (by kernel_rfl) (by exact fun _ _ _ h => h) (Or.inl ⟨by rfl, ?_⟩) hHeld ?_ ?_; rotate_left; (· (rintro w' ⟨s0, s1, s2, s3, s4, s5, s6, s7, s8, s9, s10⟩; go_simp; with_reducible rfl)); rotate_left; (· (simp only [Act.put, List.setIfInBounds_toArray, List.set_cons_zero, List.set_cons_succ, i64_w, i32_w]; rfl))))
            with_reducible refine end_ ?_
            refine one_ (i := 27) (N := some 49) #[true, true, true, true, true, true, true, true, true, true, true, true, true, true, true, true, true, true, true, true, true, true, true, true, true, true, true, true, false, false, false, false, false, false, false, false, false, false, false, false, false, false, false, false] rfl rfl (one_of HT_.out (by kernel_rfl)) (by decide) (fun K hK => ?_)
            refine goes_ Try.func95 (by kernel_rfl) rfl #[.agg #[.int .i64 a0_0, .int .i64 a0_1, .string a0_2], .int .i64 ((rd_T84 l1 x17_2).f1)] (by rfl) rfl rfl (by (try simp only [List.map_toArray, List.map_cons, List.map_nil]); first | done | rfl | (simp only [List.length_drop, List.length_take]; rfl)) ?_
            with_reducible refine (impl_isFree.calls a0_0 a0_1 a0_2 ((rd_T84 l1 x17_2).f1) true _ A37.out).mono ?_
            rintro e w45 ⟨rfl, hb⟩
            refine ⟨_, rfl, ?_⟩
            have n0_ := Aside0.mk (bb (g := gb332) (by first | (with_reducible exact BK332.out) | (with_reducible exact bN BK332.out _) | (with_reducible exact bd BK332.out) | ((with_reducible repeat first | apply bN | apply bd | apply ba); exact BK332.out)) hb)
            have n1_ := Aside0.mk (bb (g := gb336) (by first | (with_reducible exact BK336.out) | (with_reducible exact bN BK336.out _) | (with_reducible exact bd BK336.out) | ((with_reducible repeat first | apply bN | apply bd | apply ba); exact BK336.out)) hb)
            have n2_ := Aside0.mk (below_step (by repeat (first | (with_reducible first | exact HB.out | apply wa | apply wN | apply wd | refine ws ?_ GE332.out | refine ws ?_ GE336.out) | exact HB.out)) hb)
            clear BK332
            clear BK336
            clear HB
            have BK332 := n0_
            have BK336 := n1_
            have HB := n2_
            clear n0_ n1_ n2_
            (try clear hb)
            (try clear hb2)
            (try clear hk)
            (try clear hi)
            refine hK.out _ _ ⟨(bc BK336.out 0).trans rfl, (bc BK336.out 1).trans rfl, (bc BK336.out 2).trans rfl, (bc BK336.out 3).trans rfl, (bc BK332.out 0).trans rfl, (bc BK332.out 1).trans rfl, (bc BK332.out 2).trans rfl, ((HB.out.cell (World.block_lt_of_cell? w _ hw337_0)).trans hw337_0), ((HB.out.cell (World.block_lt_of_cell? w _ hw337_1)).trans hw337_1), ((HB.out.cell (World.block_lt_of_cell? w _ hw337_2)).trans hw337_2), ((HB.out.cell (World.block_lt_of_cell? w _ hw337_3)).trans hw337_3)⟩ (fun hHeld => ?_)
            clear hK K
            refine norm_ (a' := ?_) ?_ ?_
            rotate_left
            · show Act.put _ (some 49) _ = _
              simp only [Act.put, List.setIfInBounds_toArray, List.set_cons_zero, List.set_cons_succ, i64_w, i32_w]
              rfl
            refine plan_ [(28, 50, 0), (29, 51, 0), (30, 52, 0), (31, 53, 0), (32, 54, 2), (33, 55, 0), (34, 56, 0), (35, 57, 1), (36, 58, 1), (37, 59, 1), (38, 60, 1), (39, 61, 1), (40, 62, 1), (41, 63, 1), (42, 64, 0), (43, 65, 0)] ?_
            repeat (first | (refine p0_ (v := ?_) (a' := ?_) HT_.out (by rfl) (by rfl) (by rfl) (by kernel_rfl) (by exact fun _ _ _ h => h) (Or.inl ⟨by rfl, ?_⟩) ?_ ?_; rotate_left; (· (intro w'; go_simp; with_reducible rfl)); rotate_left; (· (simp only [Act.put, List.setIfInBounds_toArray, List.set_cons_zero, List.set_cons_succ, i64_w, i32_w]; rfl))) | (refine p1_ (a' := ?_) HT_.out (by rfl) (by rfl) (by rfl) (by kernel_rfl) (by exact fun _ _ _ h => h) (Or.inr ⟨by rfl, rfl⟩) ?_ ?_; rotate_left; (· (simp only [Act.put, List.setIfInBounds_toArray, List.set_cons_zero, List.set_cons_succ, i64_w, i32_w]; rfl))) | (refine p2_ (v := ?_) (a' := ?_) HT_.out HW_.out (by rfl) (by rfl) (by rfl) (by kernel_rfl) (by exact fun _ _ _ h => h) (Or.inl ⟨by rfl, ?_⟩) hHeld ?_ ?_; rotate_left; (· (rintro w' ⟨s0, s1, s2, s3, s4, s5, s6, s7, s8, s9, s10⟩; go_simp; with_reducible rfl)); rotate_left; (· (simp only [Act.put, List.setIfInBounds_toArray, List.set_cons_zero, List.set_cons_succ, i64_w, i32_w]; rfl))))
            with_reducible refine end_ ?_
            refine done_ (done_of HT_.out (by kernel_rfl)) ?_
            try go_wp2
            go_roundg k2
            case measure => have := HJ2.out; have := HK2.out; omega
            case rel => exact ⟨(wrap64 (x17_2 + 1)), (by first | rfl | (simp; done) | (simp [*]; done)), H', ⟨by have := HJ2.out; have := HK2.out; omega⟩, ⟨by (with_reducible repeat first | apply bN | apply bd | apply ba); exact BK332.out⟩, ⟨by repeat (first | (with_reducible first | exact HB.out | apply wa | apply wN | apply wd | refine ws ?_ GE332.out | refine ws ?_ GE336.out) | exact HB.out)⟩⟩
          rw [if_neg c39] at H
          have c39b0 : (((rd_T84 l1 x17_2).f2) == (-1)) = false := beq_eq_false_iff_ne.mpr c39
          have c39b1 : (((rd_T84 l1 x17_2).f2) != (-1)) = true := bne_iff_ne.mpr c39
          replace H := Option.bind_eq_some_iff.mp H
          obtain ⟨t339, A460, H⟩ := H
          replace H : (if t339 = true then (impl_RobotsOk.l0 k2 l1 l1 (l1.length : Int) (wrap64 (x17_2 + 1)) a0_0 a0_1 a0_2) else (some false)) = some r := H
          have A46 := Aside0.mk A460
          clear A460
          by_cases c47 : t339 = true
          rotate_left
          · replace c47 := Bool.eq_false_iff.mpr c47
            subst c47
            have H1 : (some false) = some r := by rw [if_neg (show ¬ (false = true) by decide)] at H; exact H
            clear H
            have H := H1
            clear H1
            obtain rfl := Option.some.inj H
            have p335 : 0 ≤ (x17_2 : Int) := of_decide_eq_true (by first | (with_reducible assumption) | assumption)
            have q335 : x17_2 < (l1.length : Int) := of_decide_eq_true (by first | (with_reducible assumption) | assumption)
            obtain ⟨ad335, e335, hx335_0, hx335_1, hx335_2, hx335_3⟩ := at_T84 HR1.out x17_2 p335 q335
            cases e335
            replace hx335_0 := (HB.out.cell (World.block_lt_of_cell? w _ hx335_0)).trans hx335_0
            replace hx335_1 := (HB.out.cell (World.block_lt_of_cell? w _ hx335_1)).trans hx335_1
            replace hx335_2 := (HB.out.cell (World.block_lt_of_cell? w _ hx335_2)).trans hx335_2
            replace hx335_3 := (HB.out.cell (World.block_lt_of_cell? w _ hx335_3)).trans hx335_3
            replace p335 := eq_true p335
            replace q335 := eq_true q335
            try go_wp2_with (first | ((with_reducible refine gate_dst (N := 6) rfl ?_); (try (refine gate_guard (by rfl) ?_; dsimp only)); refine box_event ?hg (N := 6) ?hd (cs := #[.int .i64 0, .int .i64 0, .int .i64 0, .bool false]) (t := 84) ?hr ?_; (case hd => rfl); (case hg => rfl); (case hr => first | (go_simp; done) | (go_simp; rfl)); intro gb336 hg w55 hbox hb; have n0_ := Aside0.mk (bb (g := gb332) (by first | (with_reducible exact BK332.out) | (with_reducible exact bN BK332.out _) | (with_reducible exact bd BK332.out) | ((with_reducible repeat first | apply bN | apply bd | apply ba); exact BK332.out)) hb); have n1_ := Aside0.mk (below_step (by repeat (first | (with_reducible first | exact HB.out | apply wa | apply wN | apply wd | refine ws ?_ GE332.out) | exact HB.out)) hb); have n2_ := Aside0.mk (hbox); have n3_ := Aside0.mk ((by rw [hg]; exact (below_size (by repeat (first | (with_reducible first | exact HB.out | apply wa | apply wN | apply wd | refine ws ?_ GE332.out) | exact HB.out))) : w.heap.size ≤ gb336)); have n4_ := n3_; have n5_ := Aside0.mk ((by rw [hg]; exact Nat.ne_of_lt (blk_lt (g := gb332) (by (with_reducible repeat first | apply bN | apply bd | apply ba); exact BK332.out)) : gb332 ≠ gb336)); have n6_ := Aside0.mk ((by rw [hg]; exact Nat.ne_of_gt (blk_lt (g := gb332) (by (with_reducible repeat first | apply bN | apply bd | apply ba); exact BK332.out)) : gb336 ≠ gb332)); clear BK332; clear HB; have BK332 := n0_; have HB := n1_; have BK336 := n2_; have GW336 := n3_; have GE336 := n4_; have NB332_336 := n5_; have NB336_332 := n6_; clear n0_ n1_ n2_ n3_ n4_ n5_ n6_; clear hb hbox hg; have hnb56 := NB336_332.out; have hnc56 := NB332_336.out; have hcz57_0 : w55.cell? ⟨gb336, 0, none⟩ = some (.int .i64 0) := (bc BK336.out 0).trans rfl; have hcz57_1 : w55.cell? ⟨gb336, 1, none⟩ = some (.int .i64 0) := (bc BK336.out 1).trans rfl; have hcz57_2 : w55.cell? ⟨gb336, 2, none⟩ = some (.int .i64 0) := (bc BK336.out 2).trans rfl; have hcz57_3 : w55.cell? ⟨gb336, 3, none⟩ = some (.bool false) := (bc BK336.out 3).trans rfl; have hfz57_0 := bz BK336.out 0; have hfz57_1 := bz BK336.out 1; have hfz57_2 := bz BK336.out 2; have hfz57_3 := bz BK336.out 3))
            have n0_ : Aside0 (((((w55.setCell ⟨gb336, 0, none⟩ (.int .i64 ((rd_T84 l1 x17_2).f0))).setCell ⟨gb336, 1, none⟩ (.int .i64 ((rd_T84 l1 x17_2).f1))).setCell ⟨gb336, 2, none⟩ (.int .i64 ((rd_T84 l1 x17_2).f2))).setCell ⟨gb336, 3, none⟩ (.bool ((rd_T84 l1 x17_2).f3))).heap[gb332]? = some (.cells #[.int .i64 a0_0, .int .i64 a0_1, .string a0_2] 27 (0, 0))) := ⟨by (with_reducible repeat first | apply bN | apply bd | apply ba); refine blk_far ?_ NB332_336.out _; (with_reducible repeat first | apply bN | apply bd | apply ba); refine blk_far ?_ NB332_336.out _; (with_reducible repeat first | apply bN | apply bd | apply ba); refine blk_far ?_ NB332_336.out _; (with_reducible repeat first | apply bN | apply bd | apply ba); refine blk_far ?_ NB332_336.out _; (with_reducible repeat first | apply bN | apply bd | apply ba); exact BK332.out⟩
            have n1_ : Aside0 (((((w55.setCell ⟨gb336, 0, none⟩ (.int .i64 ((rd_T84 l1 x17_2).f0))).setCell ⟨gb336, 1, none⟩ (.int .i64 ((rd_T84 l1 x17_2).f1))).setCell ⟨gb336, 2, none⟩ (.int .i64 ((rd_T84 l1 x17_2).f2))).setCell ⟨gb336, 3, none⟩ (.bool ((rd_T84 l1 x17_2).f3))).heap[gb336]? = some (.cells #[.int .i64 ((rd_T84 l1 x17_2).f0), .int .i64 ((rd_T84 l1 x17_2).f1), .int .i64 ((rd_T84 l1 x17_2).f2), .bool ((rd_T84 l1 x17_2).f3)] 84 (0, 0))) := ⟨by (with_reducible repeat first | apply bN | apply bd | apply ba); refine blk_put (cs := #[.int .i64 ((rd_T84 l1 x17_2).f0), .int .i64 ((rd_T84 l1 x17_2).f1), .int .i64 ((rd_T84 l1 x17_2).f2), .bool false]) ?_ 3 _ rfl; (with_reducible repeat first | apply bN | apply bd | apply ba); refine blk_put (cs := #[.int .i64 ((rd_T84 l1 x17_2).f0), .int .i64 ((rd_T84 l1 x17_2).f1), .int .i64 0, .bool false]) ?_ 2 _ rfl; (with_reducible repeat first | apply bN | apply bd | apply ba); refine blk_put (cs := #[.int .i64 ((rd_T84 l1 x17_2).f0), .int .i64 0, .int .i64 0, .bool false]) ?_ 1 _ rfl; (with_reducible repeat first | apply bN | apply bd | apply ba); refine blk_put (cs := #[.int .i64 0, .int .i64 0, .int .i64 0, .bool false]) ?_ 0 _ rfl; (with_reducible repeat first | apply bN | apply bd | apply ba); exact BK336.out⟩
            have n2_ : Aside0 (Below w.heap.size w ((((w55.setCell ⟨gb336, 0, none⟩ (.int .i64 ((rd_T84 l1 x17_2).f0))).setCell ⟨gb336, 1, none⟩ (.int .i64 ((rd_T84 l1 x17_2).f1))).setCell ⟨gb336, 2, none⟩ (.int .i64 ((rd_T84 l1 x17_2).f2))).setCell ⟨gb336, 3, none⟩ (.bool ((rd_T84 l1 x17_2).f3)))) := ⟨by repeat (first | (with_reducible first | exact HB.out | apply wa | apply wN | apply wd | refine ws ?_ GE332.out | refine ws ?_ GE336.out) | exact HB.out)⟩
            (try clear BK332)
            (try clear BK336)
            (try clear HB)
            (first | (rw [show World.drewN ((((w55.setCell ⟨gb336, 0, none⟩ (.int .i64 ((rd_T84 l1 x17_2).f0))).setCell ⟨gb336, 1, none⟩ (.int .i64 ((rd_T84 l1 x17_2).f1))).setCell ⟨gb336, 2, none⟩ (.int .i64 ((rd_T84 l1 x17_2).f2))).setCell ⟨gb336, 3, none⟩ (.bool ((rd_T84 l1 x17_2).f3))) nd = World.drewN ((((w55.setCell ⟨gb336, 0, none⟩ (.int .i64 ((rd_T84 l1 x17_2).f0))).setCell ⟨gb336, 1, none⟩ (.int .i64 ((rd_T84 l1 x17_2).f1))).setCell ⟨gb336, 2, none⟩ (.int .i64 ((rd_T84 l1 x17_2).f2))).setCell ⟨gb336, 3, none⟩ (.bool ((rd_T84 l1 x17_2).f3))) nd from rfl]; have p0_ := Aside0.mk (bN n0_.out nd); have p1_ := Aside0.mk (bN n1_.out nd); have p2_ := Aside0.mk (wN n2_.out nd); generalize World.drewN ((((w55.setCell ⟨gb336, 0, none⟩ (.int .i64 ((rd_T84 l1 x17_2).f0))).setCell ⟨gb336, 1, none⟩ (.int .i64 ((rd_T84 l1 x17_2).f1))).setCell ⟨gb336, 2, none⟩ (.int .i64 ((rd_T84 l1 x17_2).f2))).setCell ⟨gb336, 3, none⟩ (.bool ((rd_T84 l1 x17_2).f3))) nd = w58 at p0_ p1_ p2_ ⊢; clear n0_ n1_ n2_; have n0_ := p0_; have n1_ := p1_; have n2_ := p2_; clear p0_ p1_ p2_) | generalize ((((w55.setCell ⟨gb336, 0, none⟩ (.int .i64 ((rd_T84 l1 x17_2).f0))).setCell ⟨gb336, 1, none⟩ (.int .i64 ((rd_T84 l1 x17_2).f1))).setCell ⟨gb336, 2, none⟩ (.int .i64 ((rd_T84 l1 x17_2).f2))).setCell ⟨gb336, 3, none⟩ (.bool ((rd_T84 l1 x17_2).f3))) = w58 at n0_ n1_ n2_ ⊢)
            have BK332 := n0_
            have BK336 := n1_
            have HB := n2_
            clear n0_ n1_ n2_
            have n0_ := Aside0.mk (bd BK332.out)
            have n1_ := Aside0.mk (bd BK336.out)
            have n2_ := Aside0.mk (wd HB.out)
            clear BK332
            clear BK336
            clear HB
            have BK332 := n0_
            have BK336 := n1_
            have HB := n2_
            clear n0_ n1_ n2_
            have p337 : 0 ≤ ((ji28) : Int) := of_decide_eq_true (by first | (with_reducible assumption) | assumption)
            have q337 : (ji28) < (l1.length : Int) := of_decide_eq_true (by first | (with_reducible assumption) | assumption)
            obtain ⟨ad337, e337, hx337_0, hx337_1, hx337_2, hx337_3⟩ := at_T84 HR1.out (ji28) p337 q337
            have hw337_3 := hx337_3
            have hw337_2 := hx337_2
            have hw337_1 := hx337_1
            have hw337_0 := hx337_0
            obtain rfl : ad335 = ad337 := (by injection e337)
            replace hx337_0 := (HB.out.cell (World.block_lt_of_cell? w _ hx337_0)).trans hx337_0
            replace hx337_1 := (HB.out.cell (World.block_lt_of_cell? w _ hx337_1)).trans hx337_1
            replace hx337_2 := (HB.out.cell (World.block_lt_of_cell? w _ hx337_2)).trans hx337_2
            replace hx337_3 := (HB.out.cell (World.block_lt_of_cell? w _ hx337_3)).trans hx337_3
            replace p337 := eq_true p337
            replace q337 := eq_true q337
            refine start_ (n := 44) (S := fun w' => w'.cell? ⟨gb336, 0, none⟩ = some (.int .i64 ((rd_T84 l1 x17_2).f0)) ∧ w'.cell? ⟨gb336, 1, none⟩ = some (.int .i64 ((rd_T84 l1 x17_2).f1)) ∧ w'.cell? ⟨gb336, 2, none⟩ = some (.int .i64 ((rd_T84 l1 x17_2).f2)) ∧ w'.cell? ⟨gb336, 3, none⟩ = some (.bool ((rd_T84 l1 x17_2).f3)) ∧ w'.cell? ⟨gb332, 0, none⟩ = some (.int .i64 a0_0) ∧ w'.cell? ⟨gb332, 1, none⟩ = some (.int .i64 a0_1) ∧ w'.cell? ⟨gb332, 2, none⟩ = some (.string a0_2) ∧ w'.cell? (ad335.add (((ji28)).toNat * 4)) = some (.int .i64 ((rd_T84 l1 (ji28)).f0)) ∧ w'.cell? ⟨(ad335.add (((ji28)).toNat * 4)).block, (ad335.add (((ji28)).toNat * 4)).off + 1, none⟩ = some (.int .i64 ((rd_T84 l1 (ji28)).f1)) ∧ w'.cell? ⟨(ad335.add (((ji28)).toNat * 4)).block, (ad335.add (((ji28)).toNat * 4)).off + 2, none⟩ = some (.int .i64 ((rd_T84 l1 (ji28)).f2)) ∧ w'.cell? ⟨(ad335.add (((ji28)).toNat * 4)).block, (ad335.add (((ji28)).toNat * 4)).off + 3, none⟩ = some (.bool ((rd_T84 l1 (ji28)).f3))) (ds := []) #[false, false, false, false, false, false, false, false, false, false, false, false, false, false, false, false, false, false, false, false, false, false, false, false, false, false, false, false, false, false, false, false, false, false, false, false, false, false, false, false, false, false, false, false] (by kernel_rfl) rfl rfl ⟨(bc BK336.out 0).trans rfl, (bc BK336.out 1).trans rfl, (bc BK336.out 2).trans rfl, (bc BK336.out 3).trans rfl, (bc BK332.out 0).trans rfl, (bc BK332.out 1).trans rfl, (bc BK332.out 2).trans rfl, ((HB.out.cell (World.block_lt_of_cell? w _ hw337_0)).trans hw337_0), ((HB.out.cell (World.block_lt_of_cell? w _ hw337_1)).trans hw337_1), ((HB.out.cell (World.block_lt_of_cell? w _ hw337_2)).trans hw337_2), ((HB.out.cell (World.block_lt_of_cell? w _ hw337_3)).trans hw337_3)⟩ (fun hHeld => ?_); refine with_tabW impl_RobotsOk.tab6 impl_RobotsOk.bits6 (fun HT_ HW_ => ?_)
            generalize w58.drew = w59 at BK332 BK336 HB hx337_0 hx337_1 hx337_2 hx337_3 hHeld ⊢
            refine plan_ [(0, 22, 0), (1, 23, 2), (2, 24, 0), (3, 25, 0), (4, 26, 0), (5, 27, 2), (6, 28, 0), (7, 29, 0), (8, 30, 0), (9, 31, 0), (10, 32, 0), (11, 33, 0), (12, 34, 0), (13, 35, 0), (14, 36, 0), (15, 37, 0), (16, 38, 0), (18, 40, 0), (17, 39, 2), (19, 41, 2), (20, 42, 0), (21, 43, 0), (22, 44, 0), (23, 45, 0), (25, 47, 0), (24, 46, 2), (26, 48, 2)] ?_
            repeat (first | (refine p0_ (v := ?_) (a' := ?_) HT_.out (by rfl) (by rfl) (by rfl) (by kernel_rfl) (by exact fun _ _ _ h => h) (Or.inl ⟨by rfl, ?_⟩) ?_ ?_; rotate_left; (· (intro w'; go_simp; with_reducible rfl)); rotate_left; (· (simp only [Act.put, List.setIfInBounds_toArray, List.set_cons_zero, List.set_cons_succ, i64_w, i32_w]; rfl))) | (refine p2_ (v := ?_) (a' := ?_) HT_.out HW_.out (by rfl) (by rfl) (by rfl) (by kernel_rfl) (by exact fun _ _ _ h => h) (Or.inl ⟨by rfl, ?_⟩) hHeld ?_ ?_; rotate_left; (· (rintro w' ⟨s0, s1, s2, s3, s4, s5, s6, s7, s8, s9, s10⟩; go_simp; with_reducible rfl)); rotate_left; (· (simp only [Act.put, List.setIfInBounds_toArray, List.set_cons_zero, List.set_cons_succ, i64_w, i32_w]; rfl))))
            with_reducible refine end_ ?_
            refine one_ (i := 27) (N := some 49) #[true, true, true, true, true, true, true, true, true, true, true, true, true, true, true, true, true, true, true, true, true, true, true, true, true, true, true, true, false, false, false, false, false, false, false, false, false, false, false, false, false, false, false, false] rfl rfl (one_of HT_.out (by kernel_rfl)) (by decide) (fun K hK => ?_)
            refine goes_ Try.func95 (by kernel_rfl) rfl #[.agg #[.int .i64 a0_0, .int .i64 a0_1, .string a0_2], .int .i64 ((rd_T84 l1 x17_2).f1)] (by rfl) rfl rfl (by (try simp only [List.map_toArray, List.map_cons, List.map_nil]); first | done | rfl | (simp only [List.length_drop, List.length_take]; rfl)) ?_
            with_reducible refine (impl_isFree.calls a0_0 a0_1 a0_2 ((rd_T84 l1 x17_2).f1) true _ A37.out).mono ?_
            rintro e w60 ⟨rfl, hb⟩
            refine ⟨_, rfl, ?_⟩
            have n0_ := Aside0.mk (bb (g := gb332) (by first | (with_reducible exact BK332.out) | (with_reducible exact bN BK332.out _) | (with_reducible exact bd BK332.out) | ((with_reducible repeat first | apply bN | apply bd | apply ba); exact BK332.out)) hb)
            have n1_ := Aside0.mk (bb (g := gb336) (by first | (with_reducible exact BK336.out) | (with_reducible exact bN BK336.out _) | (with_reducible exact bd BK336.out) | ((with_reducible repeat first | apply bN | apply bd | apply ba); exact BK336.out)) hb)
            have n2_ := Aside0.mk (below_step (by repeat (first | (with_reducible first | exact HB.out | apply wa | apply wN | apply wd | refine ws ?_ GE332.out | refine ws ?_ GE336.out) | exact HB.out)) hb)
            clear BK332
            clear BK336
            clear HB
            have BK332 := n0_
            have BK336 := n1_
            have HB := n2_
            clear n0_ n1_ n2_
            (try clear hb)
            (try clear hb2)
            (try clear hk)
            (try clear hi)
            refine hK.out _ _ ⟨(bc BK336.out 0).trans rfl, (bc BK336.out 1).trans rfl, (bc BK336.out 2).trans rfl, (bc BK336.out 3).trans rfl, (bc BK332.out 0).trans rfl, (bc BK332.out 1).trans rfl, (bc BK332.out 2).trans rfl, ((HB.out.cell (World.block_lt_of_cell? w _ hw337_0)).trans hw337_0), ((HB.out.cell (World.block_lt_of_cell? w _ hw337_1)).trans hw337_1), ((HB.out.cell (World.block_lt_of_cell? w _ hw337_2)).trans hw337_2), ((HB.out.cell (World.block_lt_of_cell? w _ hw337_3)).trans hw337_3)⟩ (fun hHeld => ?_)
            clear hK K
            refine norm_ (a' := ?_) ?_ ?_
            rotate_left
            · show Act.put _ (some 49) _ = _
              simp only [Act.put, List.setIfInBounds_toArray, List.set_cons_zero, List.set_cons_succ, i64_w, i32_w]
              rfl
            refine plan_ [(28, 50, 0), (29, 51, 0), (30, 52, 0), (31, 53, 0), (32, 54, 2), (33, 55, 0), (34, 56, 0), (36, 58, 0), (38, 60, 0), (35, 57, 2), (37, 59, 2), (39, 61, 2)] ?_
            repeat (first | (refine p0_ (v := ?_) (a' := ?_) HT_.out (by rfl) (by rfl) (by rfl) (by kernel_rfl) (by exact fun _ _ _ h => h) (Or.inl ⟨by rfl, ?_⟩) ?_ ?_; rotate_left; (· (intro w'; go_simp; with_reducible rfl)); rotate_left; (· (simp only [Act.put, List.setIfInBounds_toArray, List.set_cons_zero, List.set_cons_succ, i64_w, i32_w]; rfl))) | (refine p2_ (v := ?_) (a' := ?_) HT_.out HW_.out (by rfl) (by rfl) (by rfl) (by kernel_rfl) (by exact fun _ _ _ h => h) (Or.inl ⟨by rfl, ?_⟩) hHeld ?_ ?_; rotate_left; (· (rintro w' ⟨s0, s1, s2, s3, s4, s5, s6, s7, s8, s9, s10⟩; go_simp; with_reducible rfl)); rotate_left; (· (simp only [Act.put, List.setIfInBounds_toArray, List.set_cons_zero, List.set_cons_succ, i64_w, i32_w]; rfl))))
            with_reducible refine end_ ?_
            refine one_ (i := 40) (N := some 62) #[true, true, true, true, true, true, true, true, true, true, true, true, true, true, true, true, true, true, true, true, true, true, true, true, true, true, true, true, true, true, true, true, true, true, true, true, true, true, true, true, true, false, false, false] rfl rfl (one_of HT_.out (by kernel_rfl)) (by decide) (fun K hK => ?_)
            refine goes_ Try.func82 (by kernel_rfl) rfl #[.agg #[.int .i64 a0_0, .int .i64 a0_1, .string a0_2], .int .i64 ((rd_T84 l1 x17_2).f1), .int .i64 ((rd_T84 l1 x17_2).f2)] (by rfl) rfl rfl (by (try simp only [List.map_toArray, List.map_cons, List.map_nil]); first | done | rfl | (simp only [List.length_drop, List.length_take]; rfl)) ?_
            with_reducible refine (impl_Beside.calls k2 a0_0 a0_1 a0_2 ((rd_T84 l1 x17_2).f1) ((rd_T84 l1 x17_2).f2) false _ A46.out).mono ?_
            rintro e w61 ⟨rfl, hb⟩
            refine ⟨_, rfl, ?_⟩
            have n0_ := Aside0.mk (bb (g := gb332) (by first | (with_reducible exact BK332.out) | (with_reducible exact bN BK332.out _) | (with_reducible exact bd BK332.out) | ((with_reducible repeat first | apply bN | apply bd | apply ba); exact BK332.out)) hb)
            have n1_ := Aside0.mk (bb (g := gb336) (by first | (with_reducible exact BK336.out) | (with_reducible exact bN BK336.out _) | (with_reducible exact bd BK336.out) | ((with_reducible repeat first | apply bN | apply bd | apply ba); exact BK336.out)) hb)
            have n2_ := Aside0.mk (below_step (by repeat (first | (with_reducible first | exact HB.out | apply wa | apply wN | apply wd | refine ws ?_ GE332.out | refine ws ?_ GE336.out) | exact HB.out)) hb)
            clear BK332
            clear BK336
            clear HB
            have BK332 := n0_
            have BK336 := n1_
            have HB := n2_
            clear n0_ n1_ n2_
            (try clear hb)
            (try clear hb2)
            (try clear hk)
            (try clear hi)
            refine hK.out _ _ ⟨(bc BK336.out 0).trans rfl, (bc BK336.out 1).trans rfl, (bc BK336.out 2).trans rfl, (bc BK336.out 3).trans rfl, (bc BK332.out 0).trans rfl, (bc BK332.out 1).trans rfl, (bc BK332.out 2).trans rfl, ((HB.out.cell (World.block_lt_of_cell? w _ hw337_0)).trans hw337_0), ((HB.out.cell (World.block_lt_of_cell? w _ hw337_1)).trans hw337_1), ((HB.out.cell (World.block_lt_of_cell? w _ hw337_2)).trans hw337_2), ((HB.out.cell (World.block_lt_of_cell? w _ hw337_3)).trans hw337_3)⟩ (fun hHeld => ?_)
            clear hK K
            refine norm_ (a' := ?_) ?_ ?_
            rotate_left
            · show Act.put _ (some 62) _ = _
              simp only [Act.put, List.setIfInBounds_toArray, List.set_cons_zero, List.set_cons_succ, i64_w, i32_w]
              rfl
            refine plan_ [(41, 63, 0), (42, 64, 0), (43, 65, 0)] ?_
            repeat (refine p0_ (v := ?_) (a' := ?_) HT_.out (by rfl) (by rfl) (by rfl) (by kernel_rfl) (by exact fun _ _ _ h => h) (Or.inl ⟨by rfl, ?_⟩) ?_ ?_; rotate_left; (· (intro w'; go_simp; with_reducible rfl)); rotate_left; (· (simp only [Act.put, List.setIfInBounds_toArray, List.set_cons_zero, List.set_cons_succ, i64_w, i32_w]; rfl)))
            with_reducible refine end_ ?_
            refine done_ (done_of HT_.out (by kernel_rfl)) ?_
            try go_wp2
            go_ret
            exact ⟨by first | rfl | (simp [errW_none, errW_some] <;> rfl) | (simp only [← hji28]; first | rfl | (simp [errW_none, errW_some] <;> rfl)) | (simp [*, errW_none, errW_some] <;> rfl), by repeat (first | (with_reducible first | exact HB.out | apply wa | apply wN | apply wd | refine ws ?_ GE332.out | refine ws ?_ GE336.out) | exact HB.out)⟩
          subst c47
          have H1 : (impl_RobotsOk.l0 k2 l1 l1 (l1.length : Int) (wrap64 (x17_2 + 1)) a0_0 a0_1 a0_2) = some r := by rw [if_pos rfl] at H; exact H
          clear H
          have H := H1
          clear H1
          have H' := Aside0.mk H
          clear H
          have p335 : 0 ≤ (x17_2 : Int) := of_decide_eq_true (by first | (with_reducible assumption) | assumption)
          have q335 : x17_2 < (l1.length : Int) := of_decide_eq_true (by first | (with_reducible assumption) | assumption)
          obtain ⟨ad335, e335, hx335_0, hx335_1, hx335_2, hx335_3⟩ := at_T84 HR1.out x17_2 p335 q335
          cases e335
          replace hx335_0 := (HB.out.cell (World.block_lt_of_cell? w _ hx335_0)).trans hx335_0
          replace hx335_1 := (HB.out.cell (World.block_lt_of_cell? w _ hx335_1)).trans hx335_1
          replace hx335_2 := (HB.out.cell (World.block_lt_of_cell? w _ hx335_2)).trans hx335_2
          replace hx335_3 := (HB.out.cell (World.block_lt_of_cell? w _ hx335_3)).trans hx335_3
          replace p335 := eq_true p335
          replace q335 := eq_true q335
          try go_wp2_with (first | ((with_reducible refine gate_dst (N := 6) rfl ?_); (try (refine gate_guard (by rfl) ?_; dsimp only)); refine box_event ?hg (N := 6) ?hd (cs := #[.int .i64 0, .int .i64 0, .int .i64 0, .bool false]) (t := 84) ?hr ?_; (case hd => rfl); (case hg => rfl); (case hr => first | (go_simp; done) | (go_simp; rfl)); intro gb336 hg w48 hbox hb; have n0_ := Aside0.mk (bb (g := gb332) (by first | (with_reducible exact BK332.out) | (with_reducible exact bN BK332.out _) | (with_reducible exact bd BK332.out) | ((with_reducible repeat first | apply bN | apply bd | apply ba); exact BK332.out)) hb); have n1_ := Aside0.mk (below_step (by repeat (first | (with_reducible first | exact HB.out | apply wa | apply wN | apply wd | refine ws ?_ GE332.out) | exact HB.out)) hb); have n2_ := Aside0.mk (hbox); have n3_ := Aside0.mk ((by rw [hg]; exact (below_size (by repeat (first | (with_reducible first | exact HB.out | apply wa | apply wN | apply wd | refine ws ?_ GE332.out) | exact HB.out))) : w.heap.size ≤ gb336)); have n4_ := n3_; have n5_ := Aside0.mk ((by rw [hg]; exact Nat.ne_of_lt (blk_lt (g := gb332) (by (with_reducible repeat first | apply bN | apply bd | apply ba); exact BK332.out)) : gb332 ≠ gb336)); have n6_ := Aside0.mk ((by rw [hg]; exact Nat.ne_of_gt (blk_lt (g := gb332) (by (with_reducible repeat first | apply bN | apply bd | apply ba); exact BK332.out)) : gb336 ≠ gb332)); clear BK332; clear HB; have BK332 := n0_; have HB := n1_; have BK336 := n2_; have GW336 := n3_; have GE336 := n4_; have NB332_336 := n5_; have NB336_332 := n6_; clear n0_ n1_ n2_ n3_ n4_ n5_ n6_; clear hb hbox hg; have hnb49 := NB336_332.out; have hnc49 := NB332_336.out; have hcz50_0 : w48.cell? ⟨gb336, 0, none⟩ = some (.int .i64 0) := (bc BK336.out 0).trans rfl; have hcz50_1 : w48.cell? ⟨gb336, 1, none⟩ = some (.int .i64 0) := (bc BK336.out 1).trans rfl; have hcz50_2 : w48.cell? ⟨gb336, 2, none⟩ = some (.int .i64 0) := (bc BK336.out 2).trans rfl; have hcz50_3 : w48.cell? ⟨gb336, 3, none⟩ = some (.bool false) := (bc BK336.out 3).trans rfl; have hfz50_0 := bz BK336.out 0; have hfz50_1 := bz BK336.out 1; have hfz50_2 := bz BK336.out 2; have hfz50_3 := bz BK336.out 3))
          have n0_ : Aside0 (((((w48.setCell ⟨gb336, 0, none⟩ (.int .i64 ((rd_T84 l1 x17_2).f0))).setCell ⟨gb336, 1, none⟩ (.int .i64 ((rd_T84 l1 x17_2).f1))).setCell ⟨gb336, 2, none⟩ (.int .i64 ((rd_T84 l1 x17_2).f2))).setCell ⟨gb336, 3, none⟩ (.bool ((rd_T84 l1 x17_2).f3))).heap[gb332]? = some (.cells #[.int .i64 a0_0, .int .i64 a0_1, .string a0_2] 27 (0, 0))) := ⟨by (with_reducible repeat first | apply bN | apply bd | apply ba); refine blk_far ?_ NB332_336.out _; (with_reducible repeat first | apply bN | apply bd | apply ba); refine blk_far ?_ NB332_336.out _; (with_reducible repeat first | apply bN | apply bd | apply ba); refine blk_far ?_ NB332_336.out _; (with_reducible repeat first | apply bN | apply bd | apply ba); refine blk_far ?_ NB332_336.out _; (with_reducible repeat first | apply bN | apply bd | apply ba); exact BK332.out⟩
          have n1_ : Aside0 (((((w48.setCell ⟨gb336, 0, none⟩ (.int .i64 ((rd_T84 l1 x17_2).f0))).setCell ⟨gb336, 1, none⟩ (.int .i64 ((rd_T84 l1 x17_2).f1))).setCell ⟨gb336, 2, none⟩ (.int .i64 ((rd_T84 l1 x17_2).f2))).setCell ⟨gb336, 3, none⟩ (.bool ((rd_T84 l1 x17_2).f3))).heap[gb336]? = some (.cells #[.int .i64 ((rd_T84 l1 x17_2).f0), .int .i64 ((rd_T84 l1 x17_2).f1), .int .i64 ((rd_T84 l1 x17_2).f2), .bool ((rd_T84 l1 x17_2).f3)] 84 (0, 0))) := ⟨by (with_reducible repeat first | apply bN | apply bd | apply ba); refine blk_put (cs := #[.int .i64 ((rd_T84 l1 x17_2).f0), .int .i64 ((rd_T84 l1 x17_2).f1), .int .i64 ((rd_T84 l1 x17_2).f2), .bool false]) ?_ 3 _ rfl; (with_reducible repeat first | apply bN | apply bd | apply ba); refine blk_put (cs := #[.int .i64 ((rd_T84 l1 x17_2).f0), .int .i64 ((rd_T84 l1 x17_2).f1), .int .i64 0, .bool false]) ?_ 2 _ rfl; (with_reducible repeat first | apply bN | apply bd | apply ba); refine blk_put (cs := #[.int .i64 ((rd_T84 l1 x17_2).f0), .int .i64 0, .int .i64 0, .bool false]) ?_ 1 _ rfl; (with_reducible repeat first | apply bN | apply bd | apply ba); refine blk_put (cs := #[.int .i64 0, .int .i64 0, .int .i64 0, .bool false]) ?_ 0 _ rfl; (with_reducible repeat first | apply bN | apply bd | apply ba); exact BK336.out⟩
          have n2_ : Aside0 (Below w.heap.size w ((((w48.setCell ⟨gb336, 0, none⟩ (.int .i64 ((rd_T84 l1 x17_2).f0))).setCell ⟨gb336, 1, none⟩ (.int .i64 ((rd_T84 l1 x17_2).f1))).setCell ⟨gb336, 2, none⟩ (.int .i64 ((rd_T84 l1 x17_2).f2))).setCell ⟨gb336, 3, none⟩ (.bool ((rd_T84 l1 x17_2).f3)))) := ⟨by repeat (first | (with_reducible first | exact HB.out | apply wa | apply wN | apply wd | refine ws ?_ GE332.out | refine ws ?_ GE336.out) | exact HB.out)⟩
          (try clear BK332)
          (try clear BK336)
          (try clear HB)
          (first | (rw [show World.drewN ((((w48.setCell ⟨gb336, 0, none⟩ (.int .i64 ((rd_T84 l1 x17_2).f0))).setCell ⟨gb336, 1, none⟩ (.int .i64 ((rd_T84 l1 x17_2).f1))).setCell ⟨gb336, 2, none⟩ (.int .i64 ((rd_T84 l1 x17_2).f2))).setCell ⟨gb336, 3, none⟩ (.bool ((rd_T84 l1 x17_2).f3))) nd = World.drewN ((((w48.setCell ⟨gb336, 0, none⟩ (.int .i64 ((rd_T84 l1 x17_2).f0))).setCell ⟨gb336, 1, none⟩ (.int .i64 ((rd_T84 l1 x17_2).f1))).setCell ⟨gb336, 2, none⟩ (.int .i64 ((rd_T84 l1 x17_2).f2))).setCell ⟨gb336, 3, none⟩ (.bool ((rd_T84 l1 x17_2).f3))) nd from rfl]; have p0_ := Aside0.mk (bN n0_.out nd); have p1_ := Aside0.mk (bN n1_.out nd); have p2_ := Aside0.mk (wN n2_.out nd); generalize World.drewN ((((w48.setCell ⟨gb336, 0, none⟩ (.int .i64 ((rd_T84 l1 x17_2).f0))).setCell ⟨gb336, 1, none⟩ (.int .i64 ((rd_T84 l1 x17_2).f1))).setCell ⟨gb336, 2, none⟩ (.int .i64 ((rd_T84 l1 x17_2).f2))).setCell ⟨gb336, 3, none⟩ (.bool ((rd_T84 l1 x17_2).f3))) nd = w51 at p0_ p1_ p2_ ⊢; clear n0_ n1_ n2_; have n0_ := p0_; have n1_ := p1_; have n2_ := p2_; clear p0_ p1_ p2_) | generalize ((((w48.setCell ⟨gb336, 0, none⟩ (.int .i64 ((rd_T84 l1 x17_2).f0))).setCell ⟨gb336, 1, none⟩ (.int .i64 ((rd_T84 l1 x17_2).f1))).setCell ⟨gb336, 2, none⟩ (.int .i64 ((rd_T84 l1 x17_2).f2))).setCell ⟨gb336, 3, none⟩ (.bool ((rd_T84 l1 x17_2).f3))) = w51 at n0_ n1_ n2_ ⊢)
          have BK332 := n0_
          have BK336 := n1_
          have HB := n2_
          clear n0_ n1_ n2_
          have n0_ := Aside0.mk (bd BK332.out)
          have n1_ := Aside0.mk (bd BK336.out)
          have n2_ := Aside0.mk (wd HB.out)
          clear BK332
          clear BK336
          clear HB
          have BK332 := n0_
          have BK336 := n1_
          have HB := n2_
          clear n0_ n1_ n2_
          have p337 : 0 ≤ ((ji28) : Int) := of_decide_eq_true (by first | (with_reducible assumption) | assumption)
          have q337 : (ji28) < (l1.length : Int) := of_decide_eq_true (by first | (with_reducible assumption) | assumption)
          obtain ⟨ad337, e337, hx337_0, hx337_1, hx337_2, hx337_3⟩ := at_T84 HR1.out (ji28) p337 q337
          have hw337_3 := hx337_3
          have hw337_2 := hx337_2
          have hw337_1 := hx337_1
          have hw337_0 := hx337_0
          obtain rfl : ad335 = ad337 := (by injection e337)
          replace hx337_0 := (HB.out.cell (World.block_lt_of_cell? w _ hx337_0)).trans hx337_0
          replace hx337_1 := (HB.out.cell (World.block_lt_of_cell? w _ hx337_1)).trans hx337_1
          replace hx337_2 := (HB.out.cell (World.block_lt_of_cell? w _ hx337_2)).trans hx337_2
          replace hx337_3 := (HB.out.cell (World.block_lt_of_cell? w _ hx337_3)).trans hx337_3
          replace p337 := eq_true p337
          replace q337 := eq_true q337
          refine start_ (n := 44) (S := fun w' => w'.cell? ⟨gb336, 0, none⟩ = some (.int .i64 ((rd_T84 l1 x17_2).f0)) ∧ w'.cell? ⟨gb336, 1, none⟩ = some (.int .i64 ((rd_T84 l1 x17_2).f1)) ∧ w'.cell? ⟨gb336, 2, none⟩ = some (.int .i64 ((rd_T84 l1 x17_2).f2)) ∧ w'.cell? ⟨gb336, 3, none⟩ = some (.bool ((rd_T84 l1 x17_2).f3)) ∧ w'.cell? ⟨gb332, 0, none⟩ = some (.int .i64 a0_0) ∧ w'.cell? ⟨gb332, 1, none⟩ = some (.int .i64 a0_1) ∧ w'.cell? ⟨gb332, 2, none⟩ = some (.string a0_2) ∧ w'.cell? (ad335.add (((ji28)).toNat * 4)) = some (.int .i64 ((rd_T84 l1 (ji28)).f0)) ∧ w'.cell? ⟨(ad335.add (((ji28)).toNat * 4)).block, (ad335.add (((ji28)).toNat * 4)).off + 1, none⟩ = some (.int .i64 ((rd_T84 l1 (ji28)).f1)) ∧ w'.cell? ⟨(ad335.add (((ji28)).toNat * 4)).block, (ad335.add (((ji28)).toNat * 4)).off + 2, none⟩ = some (.int .i64 ((rd_T84 l1 (ji28)).f2)) ∧ w'.cell? ⟨(ad335.add (((ji28)).toNat * 4)).block, (ad335.add (((ji28)).toNat * 4)).off + 3, none⟩ = some (.bool ((rd_T84 l1 (ji28)).f3))) (ds := []) #[false, false, false, false, false, false, false, false, false, false, false, false, false, false, false, false, false, false, false, false, false, false, false, false, false, false, false, false, false, false, false, false, false, false, false, false, false, false, false, false, false, false, false, false] (by kernel_rfl) rfl rfl ⟨(bc BK336.out 0).trans rfl, (bc BK336.out 1).trans rfl, (bc BK336.out 2).trans rfl, (bc BK336.out 3).trans rfl, (bc BK332.out 0).trans rfl, (bc BK332.out 1).trans rfl, (bc BK332.out 2).trans rfl, ((HB.out.cell (World.block_lt_of_cell? w _ hw337_0)).trans hw337_0), ((HB.out.cell (World.block_lt_of_cell? w _ hw337_1)).trans hw337_1), ((HB.out.cell (World.block_lt_of_cell? w _ hw337_2)).trans hw337_2), ((HB.out.cell (World.block_lt_of_cell? w _ hw337_3)).trans hw337_3)⟩ (fun hHeld => ?_); refine with_tabW impl_RobotsOk.tab6 impl_RobotsOk.bits6 (fun HT_ HW_ => ?_)
          generalize w51.drew = w52 at BK332 BK336 HB hx337_0 hx337_1 hx337_2 hx337_3 hHeld ⊢
          refine plan_ [(0, 22, 0), (1, 23, 2), (2, 24, 0), (3, 25, 0), (4, 26, 0), (5, 27, 2), (6, 28, 0), (7, 29, 0), (8, 30, 0), (9, 31, 0), (10, 32, 0), (11, 33, 0), (12, 34, 0), (13, 35, 0), (14, 36, 0), (15, 37, 0), (16, 38, 0), (18, 40, 0), (17, 39, 2), (19, 41, 2), (20, 42, 0), (21, 43, 0), (22, 44, 0), (23, 45, 0), (25, 47, 0), (24, 46, 2), (26, 48, 2)] ?_
          repeat (first | (refine p0_ (v := ?_) (a' := ?_) HT_.out (by rfl) (by rfl) (by rfl) (by kernel_rfl) (by exact fun _ _ _ h => h) (Or.inl ⟨by rfl, ?_⟩) ?_ ?_; rotate_left; (· (intro w'; go_simp; with_reducible rfl)); rotate_left; (· (simp only [Act.put, List.setIfInBounds_toArray, List.set_cons_zero, List.set_cons_succ, i64_w, i32_w]; rfl))) | (refine p2_ (v := ?_) (a' := ?_) HT_.out HW_.out (by rfl) (by rfl) (by rfl) (by kernel_rfl) (by exact fun _ _ _ h => h) (Or.inl ⟨by rfl, ?_⟩) hHeld ?_ ?_; rotate_left; (· (rintro w' ⟨s0, s1, s2, s3, s4, s5, s6, s7, s8, s9, s10⟩; go_simp; with_reducible rfl)); rotate_left; (· (simp only [Act.put, List.setIfInBounds_toArray, List.set_cons_zero, List.set_cons_succ, i64_w, i32_w]; rfl))))
          with_reducible refine end_ ?_
          refine one_ (i := 27) (N := some 49) #[true, true, true, true, true, true, true, true, true, true, true, true, true, true, true, true, true, true, true, true, true, true, true, true, true, true, true, true, false, false, false, false, false, false, false, false, false, false, false, false, false, false, false, false] rfl rfl (one_of HT_.out (by kernel_rfl)) (by decide) (fun K hK => ?_)
          refine goes_ Try.func95 (by kernel_rfl) rfl #[.agg #[.int .i64 a0_0, .int .i64 a0_1, .string a0_2], .int .i64 ((rd_T84 l1 x17_2).f1)] (by rfl) rfl rfl (by (try simp only [List.map_toArray, List.map_cons, List.map_nil]); first | done | rfl | (simp only [List.length_drop, List.length_take]; rfl)) ?_
          with_reducible refine (impl_isFree.calls a0_0 a0_1 a0_2 ((rd_T84 l1 x17_2).f1) true _ A37.out).mono ?_
          rintro e w53 ⟨rfl, hb⟩
          refine ⟨_, rfl, ?_⟩
          have n0_ := Aside0.mk (bb (g := gb332) (by first | (with_reducible exact BK332.out) | (with_reducible exact bN BK332.out _) | (with_reducible exact bd BK332.out) | ((with_reducible repeat first | apply bN | apply bd | apply ba); exact BK332.out)) hb)
          have n1_ := Aside0.mk (bb (g := gb336) (by first | (with_reducible exact BK336.out) | (with_reducible exact bN BK336.out _) | (with_reducible exact bd BK336.out) | ((with_reducible repeat first | apply bN | apply bd | apply ba); exact BK336.out)) hb)
          have n2_ := Aside0.mk (below_step (by repeat (first | (with_reducible first | exact HB.out | apply wa | apply wN | apply wd | refine ws ?_ GE332.out | refine ws ?_ GE336.out) | exact HB.out)) hb)
          clear BK332
          clear BK336
          clear HB
          have BK332 := n0_
          have BK336 := n1_
          have HB := n2_
          clear n0_ n1_ n2_
          (try clear hb)
          (try clear hb2)
          (try clear hk)
          (try clear hi)
          refine hK.out _ _ ⟨(bc BK336.out 0).trans rfl, (bc BK336.out 1).trans rfl, (bc BK336.out 2).trans rfl, (bc BK336.out 3).trans rfl, (bc BK332.out 0).trans rfl, (bc BK332.out 1).trans rfl, (bc BK332.out 2).trans rfl, ((HB.out.cell (World.block_lt_of_cell? w _ hw337_0)).trans hw337_0), ((HB.out.cell (World.block_lt_of_cell? w _ hw337_1)).trans hw337_1), ((HB.out.cell (World.block_lt_of_cell? w _ hw337_2)).trans hw337_2), ((HB.out.cell (World.block_lt_of_cell? w _ hw337_3)).trans hw337_3)⟩ (fun hHeld => ?_)
          clear hK K
          refine norm_ (a' := ?_) ?_ ?_
          rotate_left
          · show Act.put _ (some 49) _ = _
            simp only [Act.put, List.setIfInBounds_toArray, List.set_cons_zero, List.set_cons_succ, i64_w, i32_w]
            rfl
          refine plan_ [(28, 50, 0), (29, 51, 0), (30, 52, 0), (31, 53, 0), (32, 54, 2), (33, 55, 0), (34, 56, 0), (36, 58, 0), (38, 60, 0), (35, 57, 2), (37, 59, 2), (39, 61, 2)] ?_
          repeat (first | (refine p0_ (v := ?_) (a' := ?_) HT_.out (by rfl) (by rfl) (by rfl) (by kernel_rfl) (by exact fun _ _ _ h => h) (Or.inl ⟨by rfl, ?_⟩) ?_ ?_; rotate_left; (· (intro w'; go_simp; with_reducible rfl)); rotate_left; (· (simp only [Act.put, List.setIfInBounds_toArray, List.set_cons_zero, List.set_cons_succ, i64_w, i32_w]; rfl))) | (refine p2_ (v := ?_) (a' := ?_) HT_.out HW_.out (by rfl) (by rfl) (by rfl) (by kernel_rfl) (by exact fun _ _ _ h => h) (Or.inl ⟨by rfl, ?_⟩) hHeld ?_ ?_; rotate_left; (· (rintro w' ⟨s0, s1, s2, s3, s4, s5, s6, s7, s8, s9, s10⟩; go_simp; with_reducible rfl)); rotate_left; (· (simp only [Act.put, List.setIfInBounds_toArray, List.set_cons_zero, List.set_cons_succ, i64_w, i32_w]; rfl))))
          with_reducible refine end_ ?_
          refine one_ (i := 40) (N := some 62) #[true, true, true, true, true, true, true, true, true, true, true, true, true, true, true, true, true, true, true, true, true, true, true, true, true, true, true, true, true, true, true, true, true, true, true, true, true, true, true, true, true, false, false, false] rfl rfl (one_of HT_.out (by kernel_rfl)) (by decide) (fun K hK => ?_)
          refine goes_ Try.func82 (by kernel_rfl) rfl #[.agg #[.int .i64 a0_0, .int .i64 a0_1, .string a0_2], .int .i64 ((rd_T84 l1 x17_2).f1), .int .i64 ((rd_T84 l1 x17_2).f2)] (by rfl) rfl rfl (by (try simp only [List.map_toArray, List.map_cons, List.map_nil]); first | done | rfl | (simp only [List.length_drop, List.length_take]; rfl)) ?_
          with_reducible refine (impl_Beside.calls k2 a0_0 a0_1 a0_2 ((rd_T84 l1 x17_2).f1) ((rd_T84 l1 x17_2).f2) true _ A46.out).mono ?_
          rintro e w54 ⟨rfl, hb⟩
          refine ⟨_, rfl, ?_⟩
          have n0_ := Aside0.mk (bb (g := gb332) (by first | (with_reducible exact BK332.out) | (with_reducible exact bN BK332.out _) | (with_reducible exact bd BK332.out) | ((with_reducible repeat first | apply bN | apply bd | apply ba); exact BK332.out)) hb)
          have n1_ := Aside0.mk (bb (g := gb336) (by first | (with_reducible exact BK336.out) | (with_reducible exact bN BK336.out _) | (with_reducible exact bd BK336.out) | ((with_reducible repeat first | apply bN | apply bd | apply ba); exact BK336.out)) hb)
          have n2_ := Aside0.mk (below_step (by repeat (first | (with_reducible first | exact HB.out | apply wa | apply wN | apply wd | refine ws ?_ GE332.out | refine ws ?_ GE336.out) | exact HB.out)) hb)
          clear BK332
          clear BK336
          clear HB
          have BK332 := n0_
          have BK336 := n1_
          have HB := n2_
          clear n0_ n1_ n2_
          (try clear hb)
          (try clear hb2)
          (try clear hk)
          (try clear hi)
          refine hK.out _ _ ⟨(bc BK336.out 0).trans rfl, (bc BK336.out 1).trans rfl, (bc BK336.out 2).trans rfl, (bc BK336.out 3).trans rfl, (bc BK332.out 0).trans rfl, (bc BK332.out 1).trans rfl, (bc BK332.out 2).trans rfl, ((HB.out.cell (World.block_lt_of_cell? w _ hw337_0)).trans hw337_0), ((HB.out.cell (World.block_lt_of_cell? w _ hw337_1)).trans hw337_1), ((HB.out.cell (World.block_lt_of_cell? w _ hw337_2)).trans hw337_2), ((HB.out.cell (World.block_lt_of_cell? w _ hw337_3)).trans hw337_3)⟩ (fun hHeld => ?_)
          clear hK K
          refine norm_ (a' := ?_) ?_ ?_
          rotate_left
          · show Act.put _ (some 62) _ = _
            simp only [Act.put, List.setIfInBounds_toArray, List.set_cons_zero, List.set_cons_succ, i64_w, i32_w]
            rfl
          refine plan_ [(41, 63, 0), (42, 64, 0), (43, 65, 0)] ?_
          repeat (refine p0_ (v := ?_) (a' := ?_) HT_.out (by rfl) (by rfl) (by rfl) (by kernel_rfl) (by exact fun _ _ _ h => h) (Or.inl ⟨by rfl, ?_⟩) ?_ ?_; rotate_left; (· (intro w'; go_simp; with_reducible rfl)); rotate_left; (· (simp only [Act.put, List.setIfInBounds_toArray, List.set_cons_zero, List.set_cons_succ, i64_w, i32_w]; rfl)))
          with_reducible refine end_ ?_
          refine done_ (done_of HT_.out (by kernel_rfl)) ?_
          try go_wp2
          go_roundg k2
          case measure => have := HJ2.out; have := HK2.out; omega
          case rel => exact ⟨(wrap64 (x17_2 + 1)), (by first | rfl | (simp; done) | (simp [*]; done)), H', ⟨by have := HJ2.out; have := HK2.out; omega⟩, ⟨by (with_reducible repeat first | apply bN | apply bd | apply ba); exact BK332.out⟩, ⟨by repeat (first | (with_reducible first | exact HB.out | apply wa | apply wN | apply wd | refine ws ?_ GE332.out | refine ws ?_ GE336.out) | exact HB.out)⟩⟩

end Go.Proofs.Ytfinjkjnoobbjaa.MFnTeams
