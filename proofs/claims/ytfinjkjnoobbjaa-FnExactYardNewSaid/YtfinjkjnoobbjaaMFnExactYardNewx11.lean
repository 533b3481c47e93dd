/- Made by a program of this session (out of the kit's print, with hand-made contracts): what each Go function that the law reaches computes, and that the machine's call does so. -/
import Derived.Test.YtfinjkjnoobbjaaMFnExactYardNewx0
import Derived.Test.YtfinjkjnoobbjaaMFnExactYardNewx10
namespace Go.Proofs.Ytfinjkjnoobbjaa.MFnExactYardNew
open Go.RowKit Go.Proofs.YtfinjkjnoobbjaaW.PrintWords Go.Proofs.YtfinjkjnoobbjaaW.PrintLast Go.Proofs.YtfinjkjnoobbjaaW.PrintMore
attribute [local go_sem] max2_int min2_int max_two min_two max_three min_three max_four min_four   -- for this text's walks alone
set_option linter.unusedVariables false
set_option linter.unusedSimpArgs false

/-! ### laws_heldPlan: function 63 -/
def laws_heldPlan.f (k : Nat) (a0_0 : Int) (a0_1 : Int) (l0_2 : List (S143)) (a1 : Int) : Option (Int) := (laws_heldWayS.f k l0_2 a1).bind fun t219 => (if t219 < 0 then (none) else (some t219))
theorem laws_heldPlan.mono : ∀ a0 a1 a2 a3 k, LeO (laws_heldPlan.f k a0 a1 a2 a3) (laws_heldPlan.f (k + 1) a0 a1 a2 a3) := by
  intro a0 a1 a2 a3 k
  unfold laws_heldPlan.f
  repeat' first
      | (with_reducible exact laws_heldWayS.mono _ _ _)
      | (with_reducible exact LeO.refl _)
      | (with_reducible exact LeO.none _)
      | (with_reducible refine LeO.ite ?_ ?_)
      | (with_reducible refine LeO.bind ?_ (fun _ => ?_))
      | exact laws_heldWayS.mono _ _ _
      | exact LeO.none _
      | refine LeO.ite ?_ ?_
      | refine LeO.bind ?_ (fun _ => ?_)
set_option maxHeartbeats 8000000 in
set_option maxRecDepth 100000 in
theorem laws_heldPlan.calls (k : Nat) (a0_0 : Int) (a0_1 : Int) (A0_2 : Option Addr) (c0_2 : Nat) (l0_2 : List (S143)) (a1 : Int) (r : Int) (w : World) (hr0_2 : Kd.C k143 w A0_2 l0_2.length l0_2) (hc0_2 : l0_2.length ≤ c0_2) (h : laws_heldPlan.f k a0_0 a0_1 l0_2 a1 = some r) :
    Calls Try.prog 63 #[.agg #[.int .i64 a0_0, .int .i64 a0_1, .slice A0_2 l0_2.length c0_2], .int .i64 a1] w fun e w' => e = .returned (.int .i64 r) ∧ Below w.heap.size w w' := by
  have hu36 := Try.underlying36
  have HR0_2 := Aside0.mk hr0_2
  have HC0_2 := Aside0.mk hc0_2
  clear hr0_2 hc0_2
  have HB := Aside0.mk (Below.refl w.heap.size w)
  have H : ((laws_heldWayS.f k l0_2 a1).bind fun t219 => (if t219 < 0 then (none) else (some t219))) = some r := h
  clear h
  replace H := Option.bind_eq_some_iff.mp H
  obtain ⟨t219, A30, H⟩ := H
  replace H : (if t219 < 0 then (none) else (some t219)) = some r := H
  have A3 := Aside0.mk A30
  clear A30
  by_cases c4 : t219 < 0
  · rw [if_pos c4] at H
    exact absurd H (by simp)
  rw [if_neg c4] at H
  have c4b0 : decide (t219 < 0) = false := decide_eq_false c4
  clear c4
  obtain rfl := Option.some.inj H
  go_enter Try.func63, Try.ntmps63
  go_wp2_with (first | ((with_reducible refine gate_dst (N := 2) rfl ?_); refine box_event ?hg (N := 2) ?hd (cs := #[.int .i64 a0_0, .int .i64 a0_1, .slice A0_2 l0_2.length c0_2]) (t := 36) ?hr ?_; (case hd => rfl); (case hg => rfl); (case hr => first | (go_simp; done) | (go_simp; rfl)); intro gb218 hg w5 hbox hb; have n0_ := Aside0.mk (below_step (by repeat (first | (with_reducible first | exact HB.out | apply wa | apply wN | apply wd) | exact HB.out)) hb); have n1_ := Aside0.mk (hbox); have n2_ := Aside0.mk ((by rw [hg]; exact (below_size (by repeat (first | (with_reducible first | exact HB.out | apply wa | apply wN | apply wd) | exact HB.out))) : w.heap.size ≤ gb218)); have n3_ := n2_; clear HB; have HB := n0_; have BK218 := n1_; have GW218 := n2_; have GE218 := n3_; clear n0_ n1_ n2_ n3_; clear hb hbox hg; have hcz6_2 : w5.cell? ⟨gb218, 2, none⟩ = some (.slice A0_2 l0_2.length c0_2) := (bc BK218.out 2).trans rfl) | ((with_reducible refine gate_callee (f := 113) rfl ?_); refine goesL_ (some 8) rfl rfl Try.func113 (by kernel_rfl) rfl #[.slice A0_2 l0_2.length c0_2, .int .i64 a1] rfl (by (try simp only [List.map_toArray, List.map_cons, List.map_nil]); first | done | rfl | (simp only [List.length_drop, List.length_take]; rfl)) ?_; (with_reducible refine (laws_heldWayS.calls k _ _ l0_2 a1 t219 _ ?side1 ?side2 A3.out).mono ?_); (case side1 => repeat (first | exact (Kd.C_below HR0_2.out HB.out) | (with_reducible refine Kd.Ca ?_ _) | (with_reducible refine Kd.Cn ?_ _) | (with_reducible refine Kd.Cd ?_))); (case side2 => exact HC0_2.out); rintro e w' ⟨rfl, ⟨nd, rfl⟩⟩; refine ⟨_, rfl, ?_⟩))
  go_ret
  exact ⟨by first | rfl | (simp [errW_none, errW_some] <;> rfl) | (simp [*, errW_none, errW_some] <;> rfl), by repeat (first | (with_reducible first | exact HB.out | apply wa | apply wN | apply wd | refine ws ?_ GE218.out) | exact HB.out)⟩

/-! ### laws_heldJobS: function 64 -/
def laws_heldJobS.l0 : Nat → List (S141) → Int → Int → Option (Int)
  | 0, _, _, _ => none
  | k + 1, x0, x1, x5 => if x5 < (x0.length : Int) then (if 0 ≤ x5 then (if ((rd_T141 x0 x5).f0) = x1 then (if ((rd_T141 x0 x5).f1) = (wrap64 (x1 + 1)) then (if (((rd_T141 x0 x5).f2) != ((Int.tmod (wrap64 ((wrap64 (x1 + 1)) + 1)) 3) == 0)) = true then (none) else (laws_heldJobS.l0 k x0 (wrap64 ((wrap64 ((wrap64 (x1 + 1)) + 1)) + 1)) (wrap64 (x5 + 1)))) else (none)) else (none)) else (none)) else (some x1)
def laws_heldJobS.f (k : Nat) (l0 : List (S141)) (a1 : Int) : Option (Int) := laws_heldJobS.l0 k l0 a1 0
theorem laws_heldJobS.mono_l : ∀ k, (∀ y0 y1 y2, LeO (laws_heldJobS.l0 k y0 y1 y2) (laws_heldJobS.l0 (k + 1) y0 y1 y2))
  | 0 => fun _ _ _ r h => by simp [laws_heldJobS.l0] at h
  | k + 1 => by
    have ih0 := laws_heldJobS.mono_l k
    · intro y0 y1 y2
      unfold laws_heldJobS.l0
      repeat' first
      | (with_reducible exact ih0 _ _ _)
      | (with_reducible exact LeO.refl _)
      | (with_reducible exact LeO.none _)
      | (with_reducible refine LeO.ite ?_ ?_)
      | (with_reducible refine LeO.bind ?_ (fun _ => ?_))
      | exact ih0 _ _ _
      | exact LeO.none _
      | refine LeO.ite ?_ ?_
      | refine LeO.bind ?_ (fun _ => ?_)
theorem laws_heldJobS.mono : ∀ a0 a1 k, LeO (laws_heldJobS.f k a0 a1) (laws_heldJobS.f (k + 1) a0 a1) := by
  intro a0 a1 k
  have ih0 := laws_heldJobS.mono_l k
  unfold laws_heldJobS.f
  repeat' first
      | (with_reducible exact ih0 _ _ _)
      | (with_reducible exact LeO.refl _)
      | (with_reducible exact LeO.none _)
      | (with_reducible refine LeO.ite ?_ ?_)
      | (with_reducible refine LeO.bind ?_ (fun _ => ?_))
      | exact ih0 _ _ _
      | exact LeO.none _
      | refine LeO.ite ?_ ?_
      | refine LeO.bind ?_ (fun _ => ?_)
set_option maxHeartbeats 8000000 in
set_option maxRecDepth 100000 in
theorem laws_heldJobS.calls (k : Nat) (A0 : Option Addr) (c0 : Nat) (l0 : List (S141)) (a1 : Int) (r : Int) (w : World) (hr0 : Kd.C k141 w A0 l0.length l0) (hc0 : l0.length ≤ c0) (h : laws_heldJobS.f k l0 a1 = some r) :
    Calls Try.prog 64 #[.slice A0 l0.length c0, .int .i64 a1] w fun e w' => e = .returned (.int .i64 r) ∧ Drawn0 w w' := by
  have HR0 := Aside0.mk hr0
  have HC0 := Aside0.mk hc0
  clear hr0 hc0
  have H : (laws_heldJobS.l0 k l0 a1 0) = some r := h
  clear h
  have H' := Aside0.mk H
  clear H
  go_enter Try.func64, Try.ntmps64
  go_wp2
  go_loopg [1, 5] k (fun kq v1 v5 w' => ∃ (x1_1 : Int) (x5_1 : Int), v1 = .int .i64 x1_1 ∧ v5 = .int .i64 x5_1 ∧ Aside0 (laws_heldJobS.l0 kq l0 x1_1 x5_1 = some r) ∧ Aside0 (kq ≤ k) ∧ Drawn0 w w')
  case atStart => exact ⟨(a1), (0), (by first | rfl | (simp; done) | (simp [*]; done)), (by first | rfl | (simp; done) | (simp [*]; done)), H', ⟨Nat.le_refl _⟩, by repeat (first | exact Drawn0.refl _ | apply Drawn0.step)⟩
  case round =>
    clear H'
    try clear p2
    obtain ⟨x1_1, x5_1, rfl, rfl, HA, HK1, ⟨m1, rfl⟩⟩ := hrel
    cases gk with
    | zero => exact absurd HA.out (by simp [laws_heldJobS.l0])
    | succ k1 =>
      have H := HA.out
      clear HA
      simp only [laws_heldJobS.l0] at H
      by_cases c3 : x5_1 < (l0.length : Int)
      rotate_left
      · rw [if_neg c3] at H
        have c3b0 : decide (x5_1 < (l0.length : Int)) = false := decide_eq_false c3
        clear c3
        obtain rfl := Option.some.inj H
        go_wp2
        go_ret
        exact ⟨by first | rfl | (simp; done) | (simp [*]; done), by repeat (first | exact Drawn0.refl _ | apply Drawn0.step)⟩
      rw [if_pos c3] at H
      have c3b0 : decide (x5_1 < (l0.length : Int)) = true := decide_eq_true c3
      clear c3
      by_cases c4 : 0 ≤ x5_1
      rotate_left
      · rw [if_neg c4] at H
        exact absurd H (by simp)
      rw [if_pos c4] at H
      have c4b0 : decide (0 ≤ x5_1) = true := decide_eq_true c4
      clear c4
      by_cases c5 : ((rd_T141 l0 x5_1).f0) = x1_1
      rotate_left
      · rw [if_neg c5] at H
        exact absurd H (by simp)
      rw [if_pos c5] at H
      have c5b0 : (((rd_T141 l0 x5_1).f0) == x1_1) = true := beq_iff_eq.mpr c5
      have c5b1 : (((rd_T141 l0 x5_1).f0) != x1_1) = false := bne_eq_false_iff_eq.mpr c5
      clear c5
      by_cases c6 : ((rd_T141 l0 x5_1).f1) = (wrap64 (x1_1 + 1))
      rotate_left
      · rw [if_neg c6] at H
        exact absurd H (by simp)
      rw [if_pos c6] at H
      have c6b0 : (((rd_T141 l0 x5_1).f1) == (wrap64 (x1_1 + 1))) = true := beq_iff_eq.mpr c6
      have c6b1 : (((rd_T141 l0 x5_1).f1) != (wrap64 (x1_1 + 1))) = false := bne_eq_false_iff_eq.mpr c6
      clear c6
      by_cases c7 : (((rd_T141 l0 x5_1).f2) != ((Int.tmod (wrap64 ((wrap64 (x1_1 + 1)) + 1)) 3) == 0)) = true
      · rw [if_pos c7] at H
        exact absurd H (by simp)
      rw [if_neg c7] at H
      have c7b0 : (((rd_T141 l0 x5_1).f2) != ((Int.tmod (wrap64 ((wrap64 (x1_1 + 1)) + 1)) 3) == 0)) = false := by simpa using c7
      (try (have c7b1 : decide (((rd_T141 l0 x5_1).f2) = ((Int.tmod (wrap64 ((wrap64 (x1_1 + 1)) + 1)) 3) == 0)) = true := by simpa using c7))
      (try (have c7b2 : (((rd_T141 l0 x5_1).f2) == ((Int.tmod (wrap64 ((wrap64 (x1_1 + 1)) + 1)) 3) == 0)) = true := by simpa using c7))
      clear c7
      have H' := Aside0.mk H
      clear H
      have p220 : 0 ≤ (x5_1 : Int) := of_decide_eq_true (by first | (with_reducible assumption) | assumption)
      have q220 : x5_1 < (l0.length : Int) := of_decide_eq_true (by first | (with_reducible assumption) | assumption)
      obtain ⟨ad220, e220, hx220_0, hx220_1, hx220_2⟩ := at_T141 HR0.out x5_1 p220 q220
      cases e220
      replace p220 := eq_true p220
      replace q220 := eq_true q220
      have p221 : 0 ≤ (x5_1 : Int) := of_decide_eq_true (by first | (with_reducible assumption) | assumption)
      have q221 : x5_1 < (l0.length : Int) := of_decide_eq_true (by first | (with_reducible assumption) | assumption)
      obtain ⟨ad221, e221, hx221_0, hx221_1, hx221_2⟩ := at_T141 HR0.out x5_1 p221 q221
      obtain rfl : ad220 = ad221 := (by injection e221)
      replace p221 := eq_true p221
      replace q221 := eq_true q221
      have p222 : 0 ≤ (x5_1 : Int) := of_decide_eq_true (by first | (with_reducible assumption) | assumption)
      have q222 : x5_1 < (l0.length : Int) := of_decide_eq_true (by first | (with_reducible assumption) | assumption)
      obtain ⟨ad222, e222, hx222_0, hx222_1, hx222_2⟩ := at_T141 HR0.out x5_1 p222 q222
      obtain rfl : ad220 = ad222 := (by injection e222)
      replace p222 := eq_true p222
      replace q222 := eq_true q222
      go_wp2
      go_roundg k1
      case measure => have := HK1.out; omega
      case rel => exact ⟨(wrap64 ((wrap64 ((wrap64 (x1_1 + 1)) + 1)) + 1)), (wrap64 (x5_1 + 1)), (by first | rfl | (simp; done) | (simp [*]; done)), (by first | rfl | (simp; done) | (simp [*]; done)), H', ⟨by have := HK1.out; omega⟩, by repeat (first | exact Drawn0.refl _ | apply Drawn0.step)⟩

/-! ### laws_heldYard: function 15 -/
def laws_heldYard.f (k : Nat) (a0_0 : Int) (a0_1 : Int) (a0_2 : ByteArray) (a0_3 : Int) (a0_4 : Int) (a0_5 : Int) (a0_6 : Int) (l0_7 : List (S84)) (a0_8 : Int) (a0_9 : Int) (l0_10 : List Int) (a0_11 : Int) (a0_12 : Bool) (a0_13 : Int) (a0_14 : Int) (l0_15 : List (S143)) (l0_16 : List (S141)) (l0_17 : List Int) (a1 : Int) : Option (Int) := (laws_heldRobotS.f k l0_7 a1).bind fun t224 => (if t224 < 0 then (none) else ((laws_heldWindow.f k a0_8 a0_9 l0_10 t224).bind fun t225 => (if t225 < 0 then (none) else ((laws_heldPlan.f k a0_13 a0_14 l0_15 t225).bind fun t226 => (if t226 < 0 then (none) else ((laws_heldJobS.f k l0_16 t226).bind fun t227 => (if t227 < 0 then (none) else ((laws_heldIntS.f k l0_17 t227).bind fun t228 => (if t228 < 0 then (none) else (some t228))))))))))
theorem laws_heldYard.mono : ∀ a0 a1 a2 a3 a4 a5 a6 a7 a8 a9 a10 a11 a12 a13 a14 a15 a16 a17 a18 k, LeO (laws_heldYard.f k a0 a1 a2 a3 a4 a5 a6 a7 a8 a9 a10 a11 a12 a13 a14 a15 a16 a17 a18) (laws_heldYard.f (k + 1) a0 a1 a2 a3 a4 a5 a6 a7 a8 a9 a10 a11 a12 a13 a14 a15 a16 a17 a18) := by
  intro a0 a1 a2 a3 a4 a5 a6 a7 a8 a9 a10 a11 a12 a13 a14 a15 a16 a17 a18 k
  unfold laws_heldYard.f
  repeat' first
      | (with_reducible exact laws_heldIntS.mono _ _ _)
      | (with_reducible exact laws_heldJobS.mono _ _ _)
      | (with_reducible exact laws_heldPlan.mono _ _ _ _ _)
      | (with_reducible exact laws_heldRobotS.mono _ _ _)
      | (with_reducible exact laws_heldWindow.mono _ _ _ _ _)
      | (with_reducible exact LeO.refl _)
      | (with_reducible exact LeO.none _)
      | (with_reducible refine LeO.ite ?_ ?_)
      | (with_reducible refine LeO.bind ?_ (fun _ => ?_))
      | exact laws_heldIntS.mono _ _ _
      | exact laws_heldJobS.mono _ _ _
      | exact laws_heldPlan.mono _ _ _ _ _
      | exact laws_heldRobotS.mono _ _ _
      | exact laws_heldWindow.mono _ _ _ _ _
      | exact LeO.none _
      | refine LeO.ite ?_ ?_
      | refine LeO.bind ?_ (fun _ => ?_)
set_option maxHeartbeats 8000000 in
set_option maxRecDepth 100000 in
theorem laws_heldYard.calls (k : Nat) (a0_0 : Int) (a0_1 : Int) (a0_2 : ByteArray) (a0_3 : Int) (a0_4 : Int) (a0_5 : Int) (a0_6 : Int) (A0_7 : Option Addr) (c0_7 : Nat) (l0_7 : List (S84)) (a0_8 : Int) (a0_9 : Int) (A0_10 : Option Addr) (c0_10 : Nat) (l0_10 : List Int) (a0_11 : Int) (a0_12 : Bool) (a0_13 : Int) (a0_14 : Int) (A0_15 : Option Addr) (c0_15 : Nat) (l0_15 : List (S143)) (A0_16 : Option Addr) (c0_16 : Nat) (l0_16 : List (S141)) (A0_17 : Option Addr) (c0_17 : Nat) (l0_17 : List Int) (a1 : Int) (r : Int) (w : World) (hr0_7 : Kd.C k84 w A0_7 l0_7.length l0_7) (hc0_7 : l0_7.length ≤ c0_7) (hr0_10 : Kd.C (Kd.int .i64) w A0_10 l0_10.length l0_10) (hc0_10 : l0_10.length ≤ c0_10) (hr0_15 : Kd.C k143 w A0_15 l0_15.length l0_15) (hc0_15 : l0_15.length ≤ c0_15) (hr0_16 : Kd.C k141 w A0_16 l0_16.length l0_16) (hc0_16 : l0_16.length ≤ c0_16) (hr0_17 : Kd.C (Kd.int .i64) w A0_17 l0_17.length l0_17) (hc0_17 : l0_17.length ≤ c0_17) (h : laws_heldYard.f k a0_0 a0_1 a0_2 a0_3 a0_4 a0_5 a0_6 l0_7 a0_8 a0_9 l0_10 a0_11 a0_12 a0_13 a0_14 l0_15 l0_16 l0_17 a1 = some r) :
    Calls Try.prog 15 #[.agg #[.int .i64 a0_0, .int .i64 a0_1, .string a0_2, .int .i64 a0_3, .int .i64 a0_4, .int .i64 a0_5, .int .i64 a0_6, .slice A0_7 l0_7.length c0_7, .int .i64 a0_8, .int .i64 a0_9, .slice A0_10 l0_10.length c0_10, .int .i64 a0_11, .bool a0_12, .int .i64 a0_13, .int .i64 a0_14, .slice A0_15 l0_15.length c0_15, .slice A0_16 l0_16.length c0_16, .slice A0_17 l0_17.length c0_17], .int .i64 a1] w fun e w' => e = .returned (.int .i64 r) ∧ Below w.heap.size w w' := by
  have hu39 := Try.underlying39
  have hu33 := Try.underlying33
  have hu36 := Try.underlying36
  have HR0_7 := Aside0.mk hr0_7
  have HC0_7 := Aside0.mk hc0_7
  clear hr0_7 hc0_7
  have HR0_10 := Aside0.mk hr0_10
  have HC0_10 := Aside0.mk hc0_10
  clear hr0_10 hc0_10
  have HR0_15 := Aside0.mk hr0_15
  have HC0_15 := Aside0.mk hc0_15
  clear hr0_15 hc0_15
  have HR0_16 := Aside0.mk hr0_16
  have HC0_16 := Aside0.mk hc0_16
  clear hr0_16 hc0_16
  have HR0_17 := Aside0.mk hr0_17
  have HC0_17 := Aside0.mk hc0_17
  clear hr0_17 hc0_17
  have HB := Aside0.mk (Below.refl w.heap.size w)
  have H : ((laws_heldRobotS.f k l0_7 a1).bind fun t224 => (if t224 < 0 then (none) else ((laws_heldWindow.f k a0_8 a0_9 l0_10 t224).bind fun t225 => (if t225 < 0 then (none) else ((laws_heldPlan.f k a0_13 a0_14 l0_15 t225).bind fun t226 => (if t226 < 0 then (none) else ((laws_heldJobS.f k l0_16 t226).bind fun t227 => (if t227 < 0 then (none) else ((laws_heldIntS.f k l0_17 t227).bind fun t228 => (if t228 < 0 then (none) else (some t228))))))))))) = some r := h
  clear h
  replace H := Option.bind_eq_some_iff.mp H
  obtain ⟨t224, A30, H⟩ := H
  replace H : (if t224 < 0 then (none) else ((laws_heldWindow.f k a0_8 a0_9 l0_10 t224).bind fun t225 => (if t225 < 0 then (none) else ((laws_heldPlan.f k a0_13 a0_14 l0_15 t225).bind fun t226 => (if t226 < 0 then (none) else ((laws_heldJobS.f k l0_16 t226).bind fun t227 => (if t227 < 0 then (none) else ((laws_heldIntS.f k l0_17 t227).bind fun t228 => (if t228 < 0 then (none) else (some t228)))))))))) = some r := H
  have A3 := Aside0.mk A30
  clear A30
  by_cases c4 : t224 < 0
  · rw [if_pos c4] at H
    exact absurd H (by simp)
  rw [if_neg c4] at H
  have c4b0 : decide (t224 < 0) = false := decide_eq_false c4
  clear c4
  replace H := Option.bind_eq_some_iff.mp H
  obtain ⟨t225, A50, H⟩ := H
  replace H : (if t225 < 0 then (none) else ((laws_heldPlan.f k a0_13 a0_14 l0_15 t225).bind fun t226 => (if t226 < 0 then (none) else ((laws_heldJobS.f k l0_16 t226).bind fun t227 => (if t227 < 0 then (none) else ((laws_heldIntS.f k l0_17 t227).bind fun t228 => (if t228 < 0 then (none) else (some t228)))))))) = some r := H
  have A5 := Aside0.mk A50
  clear A50
  by_cases c6 : t225 < 0
  · rw [if_pos c6] at H
    exact absurd H (by simp)
  rw [if_neg c6] at H
  have c6b0 : decide (t225 < 0) = false := decide_eq_false c6
  clear c6
  replace H := Option.bind_eq_some_iff.mp H
  obtain ⟨t226, A70, H⟩ := H
  replace H : (if t226 < 0 then (none) else ((laws_heldJobS.f k l0_16 t226).bind fun t227 => (if t227 < 0 then (none) else ((laws_heldIntS.f k l0_17 t227).bind fun t228 => (if t228 < 0 then (none) else (some t228)))))) = some r := H
  have A7 := Aside0.mk A70
  clear A70
  by_cases c8 : t226 < 0
  · rw [if_pos c8] at H
    exact absurd H (by simp)
  rw [if_neg c8] at H
  have c8b0 : decide (t226 < 0) = false := decide_eq_false c8
  clear c8
  replace H := Option.bind_eq_some_iff.mp H
  obtain ⟨t227, A90, H⟩ := H
  replace H : (if t227 < 0 then (none) else ((laws_heldIntS.f k l0_17 t227).bind fun t228 => (if t228 < 0 then (none) else (some t228)))) = some r := H
  have A9 := Aside0.mk A90
  clear A90
  by_cases c10 : t227 < 0
  · rw [if_pos c10] at H
    exact absurd H (by simp)
  rw [if_neg c10] at H
  have c10b0 : decide (t227 < 0) = false := decide_eq_false c10
  clear c10
  replace H := Option.bind_eq_some_iff.mp H
  obtain ⟨t228, A110, H⟩ := H
  replace H : (if t228 < 0 then (none) else (some t228)) = some r := H
  have A11 := Aside0.mk A110
  clear A110
  by_cases c12 : t228 < 0
  · rw [if_pos c12] at H
    exact absurd H (by simp)
  rw [if_neg c12] at H
  have c12b0 : decide (t228 < 0) = false := decide_eq_false c12
  clear c12
  obtain rfl := Option.some.inj H
  go_enter Try.func15, Try.ntmps15
  go_wp2_with (first | ((with_reducible refine gate_dst (N := 2) rfl ?_); refine box_event ?hg (N := 2) ?hd (cs := #[.int .i64 a0_0, .int .i64 a0_1, .string a0_2, .int .i64 a0_3, .int .i64 a0_4, .int .i64 a0_5, .int .i64 a0_6, .slice A0_7 l0_7.length c0_7, .int .i64 a0_8, .int .i64 a0_9, .slice A0_10 l0_10.length c0_10, .int .i64 a0_11, .bool a0_12, .int .i64 a0_13, .int .i64 a0_14, .slice A0_15 l0_15.length c0_15, .slice A0_16 l0_16.length c0_16, .slice A0_17 l0_17.length c0_17]) (t := 39) ?hr ?_; (case hd => rfl); (case hg => rfl); (case hr => first | (go_simp; done) | (go_simp; rfl)); intro gb223 hg w13 hbox hb; have n0_ := Aside0.mk (below_step (by repeat (first | (with_reducible first | exact HB.out | apply wa | apply wN | apply wd) | exact HB.out)) hb); have n1_ := Aside0.mk (hbox); have n2_ := Aside0.mk ((by rw [hg]; exact (below_size (by repeat (first | (with_reducible first | exact HB.out | apply wa | apply wN | apply wd) | exact HB.out))) : w.heap.size ≤ gb223)); have n3_ := n2_; clear HB; have HB := n0_; have BK223 := n1_; have GW223 := n2_; have GE223 := n3_; clear n0_ n1_ n2_ n3_; clear hb hbox hg; have hcz14_7 : w13.cell? ⟨gb223, 7, none⟩ = some (.slice A0_7 l0_7.length c0_7) := (bc BK223.out 7).trans rfl; have hcz14_8 : w13.cell? ⟨gb223, 8, none⟩ = some (.int .i64 a0_8) := (bc BK223.out 8).trans rfl; have hcz14_9 : w13.cell? ⟨gb223, 9, none⟩ = some (.int .i64 a0_9) := (bc BK223.out 9).trans rfl; have hcz14_10 : w13.cell? ⟨gb223, 10, none⟩ = some (.slice A0_10 l0_10.length c0_10) := (bc BK223.out 10).trans rfl; have hcz14_13 : w13.cell? ⟨gb223, 13, none⟩ = some (.int .i64 a0_13) := (bc BK223.out 13).trans rfl; have hcz14_14 : w13.cell? ⟨gb223, 14, none⟩ = some (.int .i64 a0_14) := (bc BK223.out 14).trans rfl; have hcz14_15 : w13.cell? ⟨gb223, 15, none⟩ = some (.slice A0_15 l0_15.length c0_15) := (bc BK223.out 15).trans rfl; have hcz14_16 : w13.cell? ⟨gb223, 16, none⟩ = some (.slice A0_16 l0_16.length c0_16) := (bc BK223.out 16).trans rfl; have hcz14_17 : w13.cell? ⟨gb223, 17, none⟩ = some (.slice A0_17 l0_17.length c0_17) := (bc BK223.out 17).trans rfl) | ((with_reducible refine gate_callee (f := 61) rfl ?_); refine goesL_ (some 8) rfl rfl Try.func61 (by kernel_rfl) rfl #[.slice A0_7 l0_7.length c0_7, .int .i64 a1] rfl (by (try simp only [List.map_toArray, List.map_cons, List.map_nil]); first | done | rfl | (simp only [List.length_drop, List.length_take]; rfl)) ?_; (with_reducible refine (laws_heldRobotS.calls k _ _ l0_7 a1 t224 _ ?side1 ?side2 A3.out).mono ?_); (case side1 => repeat (first | exact (Kd.C_below HR0_7.out HB.out) | (with_reducible refine Kd.Ca ?_ _) | (with_reducible refine Kd.Cn ?_ _) | (with_reducible refine Kd.Cd ?_))); (case side2 => exact HC0_7.out); rintro e w' ⟨rfl, ⟨nd, rfl⟩⟩; refine ⟨_, rfl, ?_⟩) | ((with_reducible refine gate_callee (f := 62) rfl ?_); refine goesL_ (some 14) rfl rfl Try.func62 (by kernel_rfl) rfl #[.agg #[.int .i64 a0_8, .int .i64 a0_9, .slice A0_10 l0_10.length c0_10], .int .i64 t224] rfl (by (try simp only [List.map_toArray, List.map_cons, List.map_nil]); first | done | rfl | (simp only [List.length_drop, List.length_take]; rfl)) ?_; (with_reducible refine (laws_heldWindow.calls k a0_8 a0_9 _ _ l0_10 t224 t225 _ ?side1 ?side2 A5.out).mono ?_); (case side1 => repeat (first | exact (Kd.C_below HR0_10.out (by repeat (first | (with_reducible first | exact HB.out | apply wa | apply wN | apply wd | refine ws ?_ GE223.out) | exact HB.out))) | (with_reducible refine Kd.Ca ?_ _) | (with_reducible refine Kd.Cn ?_ _) | (with_reducible refine Kd.Cd ?_))); (case side2 => exact HC0_10.out); rintro e w15 ⟨rfl, hb⟩; refine ⟨_, rfl, ?_⟩; have n0_ := Aside0.mk (bb (g := gb223) (by first | (with_reducible exact BK223.out) | (with_reducible exact bN BK223.out _) | (with_reducible exact bd BK223.out) | ((with_reducible repeat first | apply bN | apply bd | apply ba); exact BK223.out)) hb); have n1_ := Aside0.mk (below_step (by repeat (first | (with_reducible first | exact HB.out | apply wa | apply wN | apply wd | refine ws ?_ GE223.out) | exact HB.out)) hb); clear BK223; clear HB; have BK223 := n0_; have HB := n1_; clear n0_ n1_; (try clear hb); (try clear hb2); (try clear hk); (try clear hi); have hcz16_7 : w15.cell? ⟨gb223, 7, none⟩ = some (.slice A0_7 l0_7.length c0_7) := (bc BK223.out 7).trans rfl; have hcz16_8 : w15.cell? ⟨gb223, 8, none⟩ = some (.int .i64 a0_8) := (bc BK223.out 8).trans rfl; have hcz16_9 : w15.cell? ⟨gb223, 9, none⟩ = some (.int .i64 a0_9) := (bc BK223.out 9).trans rfl; have hcz16_10 : w15.cell? ⟨gb223, 10, none⟩ = some (.slice A0_10 l0_10.length c0_10) := (bc BK223.out 10).trans rfl; have hcz16_13 : w15.cell? ⟨gb223, 13, none⟩ = some (.int .i64 a0_13) := (bc BK223.out 13).trans rfl; have hcz16_14 : w15.cell? ⟨gb223, 14, none⟩ = some (.int .i64 a0_14) := (bc BK223.out 14).trans rfl; have hcz16_15 : w15.cell? ⟨gb223, 15, none⟩ = some (.slice A0_15 l0_15.length c0_15) := (bc BK223.out 15).trans rfl; have hcz16_16 : w15.cell? ⟨gb223, 16, none⟩ = some (.slice A0_16 l0_16.length c0_16) := (bc BK223.out 16).trans rfl; have hcz16_17 : w15.cell? ⟨gb223, 17, none⟩ = some (.slice A0_17 l0_17.length c0_17) := (bc BK223.out 17).trans rfl) | ((with_reducible refine gate_callee (f := 63) rfl ?_); refine goesL_ (some 20) rfl rfl Try.func63 (by kernel_rfl) rfl #[.agg #[.int .i64 a0_13, .int .i64 a0_14, .slice A0_15 l0_15.length c0_15], .int .i64 t225] rfl (by (try simp only [List.map_toArray, List.map_cons, List.map_nil]); first | done | rfl | (simp only [List.length_drop, List.length_take]; rfl)) ?_; (with_reducible refine (laws_heldPlan.calls k a0_13 a0_14 _ _ l0_15 t225 t226 _ ?side1 ?side2 A7.out).mono ?_); (case side1 => repeat (first | exact (Kd.C_below HR0_15.out HB.out) | (with_reducible refine Kd.Ca ?_ _) | (with_reducible refine Kd.Cn ?_ _) | (with_reducible refine Kd.Cd ?_))); (case side2 => exact HC0_15.out); rintro e w17 ⟨rfl, hb⟩; refine ⟨_, rfl, ?_⟩; have n0_ := Aside0.mk (bb (g := gb223) (by first | (with_reducible exact BK223.out) | (with_reducible exact bN BK223.out _) | (with_reducible exact bd BK223.out) | ((with_reducible repeat first | apply bN | apply bd | apply ba); exact BK223.out)) hb); have n1_ := Aside0.mk (below_step (by repeat (first | (with_reducible first | exact HB.out | apply wa | apply wN | apply wd | refine ws ?_ GE223.out) | exact HB.out)) hb); clear BK223; clear HB; have BK223 := n0_; have HB := n1_; clear n0_ n1_; (try clear hb); (try clear hb2); (try clear hk); (try clear hi); have hcz18_7 : w17.cell? ⟨gb223, 7, none⟩ = some (.slice A0_7 l0_7.length c0_7) := (bc BK223.out 7).trans rfl; have hcz18_8 : w17.cell? ⟨gb223, 8, none⟩ = some (.int .i64 a0_8) := (bc BK223.out 8).trans rfl; have hcz18_9 : w17.cell? ⟨gb223, 9, none⟩ = some (.int .i64 a0_9) := (bc BK223.out 9).trans rfl; have hcz18_10 : w17.cell? ⟨gb223, 10, none⟩ = some (.slice A0_10 l0_10.length c0_10) := (bc BK223.out 10).trans rfl; have hcz18_13 : w17.cell? ⟨gb223, 13, none⟩ = some (.int .i64 a0_13) := (bc BK223.out 13).trans rfl; have hcz18_14 : w17.cell? ⟨gb223, 14, none⟩ = some (.int .i64 a0_14) := (bc BK223.out 14).trans rfl; have hcz18_15 : w17.cell? ⟨gb223, 15, none⟩ = some (.slice A0_15 l0_15.length c0_15) := (bc BK223.out 15).trans rfl; have hcz18_16 : w17.cell? ⟨gb223, 16, none⟩ = some (.slice A0_16 l0_16.length c0_16) := (bc BK223.out 16).trans rfl; have hcz18_17 : w17.cell? ⟨gb223, 17, none⟩ = some (.slice A0_17 l0_17.length c0_17) := (bc BK223.out 17).trans rfl) | ((with_reducible refine gate_callee (f := 64) rfl ?_); refine goesL_ (some 26) rfl rfl Try.func64 (by kernel_rfl) rfl #[.slice A0_16 l0_16.length c0_16, .int .i64 t226] rfl (by (try simp only [List.map_toArray, List.map_cons, List.map_nil]); first | done | rfl | (simp only [List.length_drop, List.length_take]; rfl)) ?_; (with_reducible refine (laws_heldJobS.calls k _ _ l0_16 t226 t227 _ ?side1 ?side2 A9.out).mono ?_); (case side1 => repeat (first | exact (Kd.C_below HR0_16.out HB.out) | (with_reducible refine Kd.Ca ?_ _) | (with_reducible refine Kd.Cn ?_ _) | (with_reducible refine Kd.Cd ?_))); (case side2 => exact HC0_16.out); rintro e w' ⟨rfl, ⟨nd, rfl⟩⟩; refine ⟨_, rfl, ?_⟩) | ((with_reducible refine gate_callee (f := 34) rfl ?_); refine goesL_ (some 32) rfl rfl Try.func34 (by kernel_rfl) rfl #[.slice A0_17 l0_17.length c0_17, .int .i64 t227] rfl (by (try simp only [List.map_toArray, List.map_cons, List.map_nil]); first | done | rfl | (simp only [List.length_drop, List.length_take]; rfl)) ?_; (with_reducible refine (laws_heldIntS.calls k _ _ l0_17 t227 t228 _ ?side1 ?side2 A11.out).mono ?_); (case side1 => repeat (first | exact (Kd.C_below HR0_17.out (by repeat (first | (with_reducible first | exact HB.out | apply wa | apply wN | apply wd | refine ws ?_ GE223.out) | exact HB.out))) | (with_reducible refine Kd.Ca ?_ _) | (with_reducible refine Kd.Cn ?_ _) | (with_reducible refine Kd.Cd ?_))); (case side2 => exact HC0_17.out); rintro e w' ⟨rfl, ⟨nd, rfl⟩⟩; refine ⟨_, rfl, ?_⟩))
  go_ret
  exact ⟨by first | rfl | (simp [errW_none, errW_some] <;> rfl) | (simp [*, errW_none, errW_some] <;> rfl), by repeat (first | (with_reducible first | exact HB.out | apply wa | apply wN | apply wd | refine ws ?_ GE223.out) | exact HB.out)⟩

end Go.Proofs.Ytfinjkjnoobbjaa.MFnExactYardNew
