/- Made by a program of this session (out of the kit's print, with hand-made contracts): what each Go function that the law reaches computes, and that the machine's call does so. -/
import Derived.Test.YtfinjkjnoobbjaaMFnExactJobsOkx0
import Derived.Test.YtfinjkjnoobbjaaMFnExactJobsOkx13
import Derived.Test.YtfinjkjnoobbjaaMFnExactJobsOkx15
namespace Go.Proofs.Ytfinjkjnoobbjaa.MFnExactJobsOk
open Go.RowKit Go.Proofs.YtfinjkjnoobbjaaW.PrintWords Go.Proofs.YtfinjkjnoobbjaaW.PrintLast Go.Proofs.YtfinjkjnoobbjaaW.PrintMore
attribute [local go_sem] max2_int min2_int max_two min_two max_three min_three max_four min_four   -- for this text's walks alone
set_option linter.unusedVariables false
set_option linter.unusedSimpArgs false

/-! ### impl_jobsOk: function 77 -/
mutual
def impl_jobsOk.j0 : Nat → Bool → Bool → Int → Int → ByteArray → Int → Int → Int → Int → List (S84) → Int → Int → List Int → Int → Bool → Int → Int → List (S143) → List (S141) → List Int → Int → Int → List (S143) → Option (Bool)
  | 0, _, _, _, _, _, _, _, _, _, _, _, _, _, _, _, _, _, _, _, _, _, _, _ => none
  | k + 1, x1, x61, x290000, x290001, x290002, x290003, x290004, x290005, x290006, x290007, x290008, x290009, x290010, x290011, x290012, x290013, x290014, x290015, x290016, x290017, x291000, x291001, x291002 => if x61 = true then (some false) else ((impl_jobsOk_1.f x291002 x291000 x291001 x291002).bind fun t291 => (if t291 = true then (some false) else ((impl_LayerOf.f x290000 x290001 x290002 x290003 x290004 x290005 x290006 x290007 x290008 x290009 x290010 x290011 x290012 x290013 x290014 x290015 x290016 x290017).bind fun t292 => (impl_jobsOk.l0 k x1 t292 (x290016.length : Int) 0 x290000 x290001 x290002 x290003 x290004 x290005 x290006 x290007 x290008 x290009 x290010 x290011 x290012 x290013 x290014 x290015 x290016 x290017 x291000 x291001 x291002))))
def impl_jobsOk.l0 : Nat → Bool → Int → Int → Int → Int → Int → ByteArray → Int → Int → Int → Int → List (S84) → Int → Int → List Int → Int → Bool → Int → Int → List (S143) → List (S141) → List Int → Int → Int → List (S143) → Option (Bool)
  | 0, _, _, _, _, _, _, _, _, _, _, _, _, _, _, _, _, _, _, _, _, _, _, _, _, _ => none
  | k + 1, x1, x6, x70, x71, x290000, x290001, x290002, x290003, x290004, x290005, x290006, x290007, x290008, x290009, x290010, x290011, x290012, x290013, x290014, x290015, x290016, x290017, x291000, x291001, x291002 => if x71 < x70 then ((impl_isJob.f k x290000 x290001 x290002 x290003 x290004 x290005 x290006 x290007 x290008 x290009 x290010 x290011 x290012 x290013 x290014 x290015 x290016 x290017 x71 x6).bind fun t293 => (if t293 = true then (impl_jobsOk.l0 k x1 x6 x70 (wrap64 (x71 + 1)) x290000 x290001 x290002 x290003 x290004 x290005 x290006 x290007 x290008 x290009 x290010 x290011 x290012 x290013 x290014 x290015 x290016 x290017 x291000 x291001 x291002) else (some false))) else (if x1 = true then (some true) else (some (decide (x6 < x291000))))
end
def impl_jobsOk.f (k : Nat) (a0_0 : Int) (a0_1 : Int) (a0_2 : ByteArray) (a0_3 : Int) (a0_4 : Int) (a0_5 : Int) (a0_6 : Int) (l0_7 : List (S84)) (a0_8 : Int) (a0_9 : Int) (l0_10 : List Int) (a0_11 : Int) (a0_12 : Bool) (a0_13 : Int) (a0_14 : Int) (l0_15 : List (S143)) (l0_16 : List (S141)) (l0_17 : List Int) (a1 : Bool) : Option (Bool) := if a0_12 = true then (if a0_13 < 0 then (impl_jobsOk.j0 k a1 true a0_0 a0_1 a0_2 a0_3 a0_4 a0_5 a0_6 l0_7 a0_8 a0_9 l0_10 a0_11 a0_12 a0_13 a0_14 l0_15 l0_16 l0_17 a0_13 a0_14 l0_15) else (if a0_13 > 20 then (impl_jobsOk.j0 k a1 true a0_0 a0_1 a0_2 a0_3 a0_4 a0_5 a0_6 l0_7 a0_8 a0_9 l0_10 a0_11 a0_12 a0_13 a0_14 l0_15 l0_16 l0_17 a0_13 a0_14 l0_15) else (if (l0_16.length : Int) < 1 then (impl_jobsOk.j0 k a1 true a0_0 a0_1 a0_2 a0_3 a0_4 a0_5 a0_6 l0_7 a0_8 a0_9 l0_10 a0_11 a0_12 a0_13 a0_14 l0_15 l0_16 l0_17 a0_13 a0_14 l0_15) else (if (l0_16.length : Int) > 10 then (impl_jobsOk.j0 k a1 true a0_0 a0_1 a0_2 a0_3 a0_4 a0_5 a0_6 l0_7 a0_8 a0_9 l0_10 a0_11 a0_12 a0_13 a0_14 l0_15 l0_16 l0_17 a0_13 a0_14 l0_15) else (impl_jobsOk.j0 k a1 ((l0_16.length : Int) != (l0_15.length : Int)) a0_0 a0_1 a0_2 a0_3 a0_4 a0_5 a0_6 l0_7 a0_8 a0_9 l0_10 a0_11 a0_12 a0_13 a0_14 l0_15 l0_16 l0_17 a0_13 a0_14 l0_15))))) else (if a0_13 = 0 then (if a0_14 = 0 then (if (l0_15.length : Int) = 0 then (some ((l0_16.length : Int) == 0)) else (some false)) else (some false)) else (some false))
theorem impl_jobsOk.mono_l : ∀ k, (∀ y0 y1 y2 y3 y4 y5 y6 y7 y8 y9 y10 y11 y12 y13 y14 y15 y16 y17 y18 y19 y20 y21 y22, LeO (impl_jobsOk.j0 k y0 y1 y2 y3 y4 y5 y6 y7 y8 y9 y10 y11 y12 y13 y14 y15 y16 y17 y18 y19 y20 y21 y22) (impl_jobsOk.j0 (k + 1) y0 y1 y2 y3 y4 y5 y6 y7 y8 y9 y10 y11 y12 y13 y14 y15 y16 y17 y18 y19 y20 y21 y22)) ∧ (∀ y0 y1 y2 y3 y4 y5 y6 y7 y8 y9 y10 y11 y12 y13 y14 y15 y16 y17 y18 y19 y20 y21 y22 y23 y24, LeO (impl_jobsOk.l0 k y0 y1 y2 y3 y4 y5 y6 y7 y8 y9 y10 y11 y12 y13 y14 y15 y16 y17 y18 y19 y20 y21 y22 y23 y24) (impl_jobsOk.l0 (k + 1) y0 y1 y2 y3 y4 y5 y6 y7 y8 y9 y10 y11 y12 y13 y14 y15 y16 y17 y18 y19 y20 y21 y22 y23 y24))
  | 0 => ⟨fun _ _ _ _ _ _ _ _ _ _ _ _ _ _ _ _ _ _ _ _ _ _ _ r h => by simp [impl_jobsOk.j0] at h, fun _ _ _ _ _ _ _ _ _ _ _ _ _ _ _ _ _ _ _ _ _ _ _ _ _ r h => by simp [impl_jobsOk.l0] at h⟩
  | k + 1 => by
    obtain ⟨ih0, ih1⟩ := impl_jobsOk.mono_l k
    refine ⟨?_, ?_⟩
    · intro y0 y1 y2 y3 y4 y5 y6 y7 y8 y9 y10 y11 y12 y13 y14 y15 y16 y17 y18 y19 y20 y21 y22
      unfold impl_jobsOk.j0
      repeat' first
      | (with_reducible exact ih0 _ _ _ _ _ _ _ _ _ _ _ _ _ _ _ _ _ _ _ _ _ _ _)
      | (with_reducible exact ih1 _ _ _ _ _ _ _ _ _ _ _ _ _ _ _ _ _ _ _ _ _ _ _ _ _)
      | (with_reducible exact impl_isJob.mono _ _ _ _ _ _ _ _ _ _ _ _ _ _ _ _ _ _ _ _ _)
      | (with_reducible exact LeO.refl _)
      | (with_reducible exact LeO.none _)
      | (with_reducible refine LeO.ite ?_ ?_)
      | (with_reducible refine LeO.bind ?_ (fun _ => ?_))
      | exact ih0 _ _ _ _ _ _ _ _ _ _ _ _ _ _ _ _ _ _ _ _ _ _ _
      | exact ih1 _ _ _ _ _ _ _ _ _ _ _ _ _ _ _ _ _ _ _ _ _ _ _ _ _
      | exact impl_isJob.mono _ _ _ _ _ _ _ _ _ _ _ _ _ _ _ _ _ _ _ _ _
      | exact LeO.none _
      | refine LeO.ite ?_ ?_
      | refine LeO.bind ?_ (fun _ => ?_)
    · intro y0 y1 y2 y3 y4 y5 y6 y7 y8 y9 y10 y11 y12 y13 y14 y15 y16 y17 y18 y19 y20 y21 y22 y23 y24
      unfold impl_jobsOk.l0
      repeat' first
      | (with_reducible exact ih0 _ _ _ _ _ _ _ _ _ _ _ _ _ _ _ _ _ _ _ _ _ _ _)
      | (with_reducible exact ih1 _ _ _ _ _ _ _ _ _ _ _ _ _ _ _ _ _ _ _ _ _ _ _ _ _)
      | (with_reducible exact impl_isJob.mono _ _ _ _ _ _ _ _ _ _ _ _ _ _ _ _ _ _ _ _ _)
      | (with_reducible exact LeO.refl _)
      | (with_reducible exact LeO.none _)
      | (with_reducible refine LeO.ite ?_ ?_)
      | (with_reducible refine LeO.bind ?_ (fun _ => ?_))
      | exact ih0 _ _ _ _ _ _ _ _ _ _ _ _ _ _ _ _ _ _ _ _ _ _ _
      | exact ih1 _ _ _ _ _ _ _ _ _ _ _ _ _ _ _ _ _ _ _ _ _ _ _ _ _
      | exact impl_isJob.mono _ _ _ _ _ _ _ _ _ _ _ _ _ _ _ _ _ _ _ _ _
      | exact LeO.none _
      | refine LeO.ite ?_ ?_
      | refine LeO.bind ?_ (fun _ => ?_)
theorem impl_jobsOk.mono : ∀ a0 a1 a2 a3 a4 a5 a6 a7 a8 a9 a10 a11 a12 a13 a14 a15 a16 a17 a18 k, LeO (impl_jobsOk.f k a0 a1 a2 a3 a4 a5 a6 a7 a8 a9 a10 a11 a12 a13 a14 a15 a16 a17 a18) (impl_jobsOk.f (k + 1) a0 a1 a2 a3 a4 a5 a6 a7 a8 a9 a10 a11 a12 a13 a14 a15 a16 a17 a18) := by
  intro a0 a1 a2 a3 a4 a5 a6 a7 a8 a9 a10 a11 a12 a13 a14 a15 a16 a17 a18 k
  obtain ⟨ih0, ih1⟩ := impl_jobsOk.mono_l k
  unfold impl_jobsOk.f
  repeat' first
      | (with_reducible exact ih0 _ _ _ _ _ _ _ _ _ _ _ _ _ _ _ _ _ _ _ _ _ _ _)
      | (with_reducible exact ih1 _ _ _ _ _ _ _ _ _ _ _ _ _ _ _ _ _ _ _ _ _ _ _ _ _)
      | (with_reducible exact impl_isJob.mono _ _ _ _ _ _ _ _ _ _ _ _ _ _ _ _ _ _ _ _ _)
      | (with_reducible exact LeO.refl _)
      | (with_reducible exact LeO.none _)
      | (with_reducible refine LeO.ite ?_ ?_)
      | (with_reducible refine LeO.bind ?_ (fun _ => ?_))
      | exact ih0 _ _ _ _ _ _ _ _ _ _ _ _ _ _ _ _ _ _ _ _ _ _ _
      | exact ih1 _ _ _ _ _ _ _ _ _ _ _ _ _ _ _ _ _ _ _ _ _ _ _ _ _
      | exact impl_isJob.mono _ _ _ _ _ _ _ _ _ _ _ _ _ _ _ _ _ _ _ _ _
      | exact LeO.none _
      | refine LeO.ite ?_ ?_
      | refine LeO.bind ?_ (fun _ => ?_)
set_option maxHeartbeats 8000000 in
set_option maxRecDepth 100000 in
theorem impl_jobsOk.calls (k : Nat) (a0_0 : Int) (a0_1 : Int) (a0_2 : ByteArray) (a0_3 : Int) (a0_4 : Int) (a0_5 : Int) (a0_6 : Int) (A0_7 : Option Addr) (c0_7 : Nat) (l0_7 : List (S84)) (a0_8 : Int) (a0_9 : Int) (A0_10 : Option Addr) (c0_10 : Nat) (l0_10 : List Int) (a0_11 : Int) (a0_12 : Bool) (a0_13 : Int) (a0_14 : Int) (A0_15 : Option Addr) (c0_15 : Nat) (l0_15 : List (S143)) (A0_16 : Option Addr) (c0_16 : Nat) (l0_16 : List (S141)) (A0_17 : Option Addr) (c0_17 : Nat) (l0_17 : List Int) (a1 : Bool) (r : Bool) (w : World) (hr0_7 : Kd.C k84 w A0_7 l0_7.length l0_7) (hc0_7 : l0_7.length ≤ c0_7) (hr0_10 : Kd.C (Kd.int .i64) w A0_10 l0_10.length l0_10) (hc0_10 : l0_10.length ≤ c0_10) (hr0_15 : Kd.C k143 w A0_15 l0_15.length l0_15) (hc0_15 : l0_15.length ≤ c0_15) (hr0_16 : Kd.C k141 w A0_16 l0_16.length l0_16) (hc0_16 : l0_16.length ≤ c0_16) (hr0_17 : Kd.C (Kd.int .i64) w A0_17 l0_17.length l0_17) (hc0_17 : l0_17.length ≤ c0_17) (h : impl_jobsOk.f k a0_0 a0_1 a0_2 a0_3 a0_4 a0_5 a0_6 l0_7 a0_8 a0_9 l0_10 a0_11 a0_12 a0_13 a0_14 l0_15 l0_16 l0_17 a1 = some r) :
    Calls Try.prog 77 #[.agg #[.int .i64 a0_0, .int .i64 a0_1, .string a0_2, .int .i64 a0_3, .int .i64 a0_4, .int .i64 a0_5, .int .i64 a0_6, .slice A0_7 l0_7.length c0_7, .int .i64 a0_8, .int .i64 a0_9, .slice A0_10 l0_10.length c0_10, .int .i64 a0_11, .bool a0_12, .int .i64 a0_13, .int .i64 a0_14, .slice A0_15 l0_15.length c0_15, .slice A0_16 l0_16.length c0_16, .slice A0_17 l0_17.length c0_17], .bool a1] w fun e w' => e = .returned (.bool r) ∧ Below w.heap.size w w' := by
  have hu39 := Try.underlying39
  have hu36 := Try.underlying36
  have HR0_7 := Aside0.mk hr0_7
  have HC0_7 := Aside0.mk hc0_7
  clear hr0_7 hc0_7
  have HR0_10 := Aside0.mk hr0_10
  have HC0_10 := Aside0.mk hc0_10
  clear hr0_10 hc0_10
  have HR0_15 := Aside0.mk hr0_15
  have HC0_15 := Aside0.mk hc0_15
  clear hr0_15 hc0_15
  have HR0_16 := Aside0.mk hr0_16
  have HC0_16 := Aside0.mk hc0_16
  clear hr0_16 hc0_16
  have HR0_17 := Aside0.mk hr0_17
  have HC0_17 := Aside0.mk hc0_17
  clear hr0_17 hc0_17
  have HB := Aside0.mk (Below.refl w.heap.size w)
  have H : (if a0_12 = true then (if a0_13 < 0 then (impl_jobsOk.j0 k a1 true a0_0 a0_1 a0_2 a0_3 a0_4 a0_5 a0_6 l0_7 a0_8 a0_9 l0_10 a0_11 a0_12 a0_13 a0_14 l0_15 l0_16 l0_17 a0_13 a0_14 l0_15) else (if a0_13 > 20 then (impl_jobsOk.j0 k a1 true a0_0 a0_1 a0_2 a0_3 a0_4 a0_5 a0_6 l0_7 a0_8 a0_9 l0_10 a0_11 a0_12 a0_13 a0_14 l0_15 l0_16 l0_17 a0_13 a0_14 l0_15) else (if (l0_16.length : Int) < 1 then (impl_jobsOk.j0 k a1 true a0_0 a0_1 a0_2 a0_3 a0_4 a0_5 a0_6 l0_7 a0_8 a0_9 l0_10 a0_11 a0_12 a0_13 a0_14 l0_15 l0_16 l0_17 a0_13 a0_14 l0_15) else (if (l0_16.length : Int) > 10 then (impl_jobsOk.j0 k a1 true a0_0 a0_1 a0_2 a0_3 a0_4 a0_5 a0_6 l0_7 a0_8 a0_9 l0_10 a0_11 a0_12 a0_13 a0_14 l0_15 l0_16 l0_17 a0_13 a0_14 l0_15) else (impl_jobsOk.j0 k a1 ((l0_16.length : Int) != (l0_15.length : Int)) a0_0 a0_1 a0_2 a0_3 a0_4 a0_5 a0_6 l0_7 a0_8 a0_9 l0_10 a0_11 a0_12 a0_13 a0_14 l0_15 l0_16 l0_17 a0_13 a0_14 l0_15))))) else (if a0_13 = 0 then (if a0_14 = 0 then (if (l0_15.length : Int) = 0 then (some ((l0_16.length : Int) == 0)) else (some false)) else (some false)) else (some false))) = some r := h
  clear h
  by_cases c3 : a0_12 = true
  rotate_left
  · replace c3 := Bool.eq_false_iff.mpr c3
    subst c3
    have H1 : (if a0_13 = 0 then (if a0_14 = 0 then (if (l0_15.length : Int) = 0 then (some ((l0_16.length : Int) == 0)) else (some false)) else (some false)) else (some false)) = some r := by rw [if_neg (show ¬ (false = true) by decide)] at H; exact H
    clear H
    have H := H1
    clear H1
    by_cases c53 : a0_13 = 0
    rotate_left
    · rw [if_neg c53] at H
      have c53b0 : (a0_13 == 0) = false := beq_eq_false_iff_ne.mpr c53
      have c53b1 : (a0_13 != 0) = true := bne_iff_ne.mpr c53
      obtain rfl := Option.some.inj H
      go_enter Try.func77, Try.ntmps77
      go_wp2_with (first | ((with_reducible refine gate_dst (N := 2) rfl ?_); (try (refine gate_guard (by rfl) ?_; dsimp only)); refine box_event ?hg (N := 2) ?hd (cs := #[.int .i64 a0_0, .int .i64 a0_1, .string a0_2, .int .i64 a0_3, .int .i64 a0_4, .int .i64 a0_5, .int .i64 a0_6, .slice A0_7 l0_7.length c0_7, .int .i64 a0_8, .int .i64 a0_9, .slice A0_10 l0_10.length c0_10, .int .i64 a0_11, .bool false, .int .i64 a0_13, .int .i64 a0_14, .slice A0_15 l0_15.length c0_15, .slice A0_16 l0_16.length c0_16, .slice A0_17 l0_17.length c0_17]) (t := 39) ?hr ?_; (case hd => rfl); (case hg => rfl); (case hr => first | (go_simp; done) | (go_simp; rfl)); intro gb289 hg w74 hbox hb; have n0_ := Aside0.mk (below_step (by repeat (first | (with_reducible first | exact HB.out | apply wa | apply wN | apply wd) | exact HB.out)) hb); have n1_ := Aside0.mk (hbox); have n2_ := Aside0.mk ((by rw [hg]; exact (below_size (by repeat (first | (with_reducible first | exact HB.out | apply wa | apply wN | apply wd) | exact HB.out))) : w.heap.size ≤ gb289)); have n3_ := n2_; clear HB; have HB := n0_; have BK289 := n1_; have GW289 := n2_; have GE289 := n3_; clear n0_ n1_ n2_ n3_; clear hb hbox hg; have hcz75_12 : w74.cell? ⟨gb289, 12, none⟩ = some (.bool false) := (bc BK289.out 12).trans rfl; have hcz75_13 : w74.cell? ⟨gb289, 13, none⟩ = some (.int .i64 a0_13) := (bc BK289.out 13).trans rfl; have hcz75_14 : w74.cell? ⟨gb289, 14, none⟩ = some (.int .i64 a0_14) := (bc BK289.out 14).trans rfl; have hcz75_15 : w74.cell? ⟨gb289, 15, none⟩ = some (.slice A0_15 l0_15.length c0_15) := (bc BK289.out 15).trans rfl; have hcz75_16 : w74.cell? ⟨gb289, 16, none⟩ = some (.slice A0_16 l0_16.length c0_16) := (bc BK289.out 16).trans rfl) | ((with_reducible refine gate_dst (N := 5) rfl ?_); (try (refine gate_guard (by rfl) ?_; dsimp only)); refine box_event ?hg (N := 5) ?hd (cs := #[.int .i64 0, .int .i64 0, .slice none 0 0]) (t := 36) ?hr ?_; (case hd => rfl); (case hg => rfl); (case hr => first | (go_simp; done) | (go_simp; rfl)); intro gb290 hg w76 hbox hb; have n0_ := Aside0.mk (bb (g := gb289) (by first | (with_reducible exact BK289.out) | (with_reducible exact bN BK289.out _) | (with_reducible exact bd BK289.out) | ((with_reducible repeat first | apply bN | apply bd | apply ba); exact BK289.out)) hb); have n1_ := Aside0.mk (below_step (by repeat (first | (with_reducible first | exact HB.out | apply wa | apply wN | apply wd | refine ws ?_ GE289.out) | exact HB.out)) hb); have n2_ := Aside0.mk (hbox); have n3_ := Aside0.mk ((by rw [hg]; exact (below_size (by repeat (first | (with_reducible first | exact HB.out | apply wa | apply wN | apply wd | refine ws ?_ GE289.out) | exact HB.out))) : w.heap.size ≤ gb290)); have n4_ := n3_; have n5_ := Aside0.mk ((by rw [hg]; exact Nat.ne_of_lt (blk_lt (g := gb289) (by (with_reducible repeat first | apply bN | apply bd | apply ba); exact BK289.out)) : gb289 ≠ gb290)); have n6_ := Aside0.mk ((by rw [hg]; exact Nat.ne_of_gt (blk_lt (g := gb289) (by (with_reducible repeat first | apply bN | apply bd | apply ba); exact BK289.out)) : gb290 ≠ gb289)); clear BK289; clear HB; have BK289 := n0_; have HB := n1_; have BK290 := n2_; have GW290 := n3_; have GE290 := n4_; have NB289_290 := n5_; have NB290_289 := n6_; clear n0_ n1_ n2_ n3_ n4_ n5_ n6_; clear hb hbox hg; have hnb77 := NB290_289.out; have hnc77 := NB289_290.out; have hcz78_0 : w76.cell? ⟨gb290, 0, none⟩ = some (.int .i64 0) := (bc BK290.out 0).trans rfl; have hcz78_1 : w76.cell? ⟨gb290, 1, none⟩ = some (.int .i64 0) := (bc BK290.out 1).trans rfl; have hcz78_2 : w76.cell? ⟨gb290, 2, none⟩ = some (.slice none 0 0) := (bc BK290.out 2).trans rfl; have hfz78_0 := bz BK290.out 0; have hfz78_1 := bz BK290.out 1; have hfz78_2 := bz BK290.out 2; have hcz79_12 : w76.cell? ⟨gb289, 12, none⟩ = some (.bool false) := (bc BK289.out 12).trans rfl; have hcz79_13 : w76.cell? ⟨gb289, 13, none⟩ = some (.int .i64 a0_13) := (bc BK289.out 13).trans rfl; have hcz79_14 : w76.cell? ⟨gb289, 14, none⟩ = some (.int .i64 a0_14) := (bc BK289.out 14).trans rfl; have hcz79_15 : w76.cell? ⟨gb289, 15, none⟩ = some (.slice A0_15 l0_15.length c0_15) := (bc BK289.out 15).trans rfl; have hcz79_16 : w76.cell? ⟨gb289, 16, none⟩ = some (.slice A0_16 l0_16.length c0_16) := (bc BK289.out 16).trans rfl) | ((with_reducible refine gate_dst (N := 66) rfl ?_); refine wpList_load_row (P := Try.prog) rfl _ _ rfl gb289 ?hx _ _ _ _ (by (with_reducible repeat first | apply bN | apply bd | apply ba); with_reducible exact BK289.out) Try.underlying39 rfl (by kernel_rfl) ?_; (case hx => first | rfl | (go_simp; done))) | ((with_reducible refine gate_dst (N := 74) rfl ?_); refine wpList_load_row (P := Try.prog) rfl _ _ rfl gb289 ?hx _ _ _ _ (by (with_reducible repeat first | apply bN | apply bd | apply ba); with_reducible exact BK289.out) Try.underlying39 rfl (by kernel_rfl) ?_; (case hx => first | rfl | (go_simp; done))))
      go_ret
      exact ⟨by first | rfl | (simp [errW_none, errW_some] <;> rfl) | (simp [*, errW_none, errW_some] <;> rfl), by repeat (first | (with_reducible first | exact HB.out | apply wa | apply wN | apply wd | refine ws ?_ GE289.out | refine ws ?_ GE290.out) | exact HB.out)⟩
    rw [if_pos c53] at H
    have c53b0 : (a0_13 == 0) = true := beq_iff_eq.mpr c53
    have c53b1 : (a0_13 != 0) = false := bne_eq_false_iff_eq.mpr c53
    clear c53
    by_cases c54 : a0_14 = 0
    rotate_left
    · rw [if_neg c54] at H
      have c54b0 : (a0_14 == 0) = false := beq_eq_false_iff_ne.mpr c54
      have c54b1 : (a0_14 != 0) = true := bne_iff_ne.mpr c54
      obtain rfl := Option.some.inj H
      go_enter Try.func77, Try.ntmps77
      go_wp2_with (first | ((with_reducible refine gate_dst (N := 2) rfl ?_); (try (refine gate_guard (by rfl) ?_; dsimp only)); refine box_event ?hg (N := 2) ?hd (cs := #[.int .i64 a0_0, .int .i64 a0_1, .string a0_2, .int .i64 a0_3, .int .i64 a0_4, .int .i64 a0_5, .int .i64 a0_6, .slice A0_7 l0_7.length c0_7, .int .i64 a0_8, .int .i64 a0_9, .slice A0_10 l0_10.length c0_10, .int .i64 a0_11, .bool false, .int .i64 a0_13, .int .i64 a0_14, .slice A0_15 l0_15.length c0_15, .slice A0_16 l0_16.length c0_16, .slice A0_17 l0_17.length c0_17]) (t := 39) ?hr ?_; (case hd => rfl); (case hg => rfl); (case hr => first | (go_simp; done) | (go_simp; rfl)); intro gb289 hg w68 hbox hb; have n0_ := Aside0.mk (below_step (by repeat (first | (with_reducible first | exact HB.out | apply wa | apply wN | apply wd) | exact HB.out)) hb); have n1_ := Aside0.mk (hbox); have n2_ := Aside0.mk ((by rw [hg]; exact (below_size (by repeat (first | (with_reducible first | exact HB.out | apply wa | apply wN | apply wd) | exact HB.out))) : w.heap.size ≤ gb289)); have n3_ := n2_; clear HB; have HB := n0_; have BK289 := n1_; have GW289 := n2_; have GE289 := n3_; clear n0_ n1_ n2_ n3_; clear hb hbox hg; have hcz69_12 : w68.cell? ⟨gb289, 12, none⟩ = some (.bool false) := (bc BK289.out 12).trans rfl; have hcz69_13 : w68.cell? ⟨gb289, 13, none⟩ = some (.int .i64 a0_13) := (bc BK289.out 13).trans rfl; have hcz69_14 : w68.cell? ⟨gb289, 14, none⟩ = some (.int .i64 a0_14) := (bc BK289.out 14).trans rfl; have hcz69_15 : w68.cell? ⟨gb289, 15, none⟩ = some (.slice A0_15 l0_15.length c0_15) := (bc BK289.out 15).trans rfl; have hcz69_16 : w68.cell? ⟨gb289, 16, none⟩ = some (.slice A0_16 l0_16.length c0_16) := (bc BK289.out 16).trans rfl) | ((with_reducible refine gate_dst (N := 5) rfl ?_); (try (refine gate_guard (by rfl) ?_; dsimp only)); refine box_event ?hg (N := 5) ?hd (cs := #[.int .i64 0, .int .i64 0, .slice none 0 0]) (t := 36) ?hr ?_; (case hd => rfl); (case hg => rfl); (case hr => first | (go_simp; done) | (go_simp; rfl)); intro gb290 hg w70 hbox hb; have n0_ := Aside0.mk (bb (g := gb289) (by first | (with_reducible exact BK289.out) | (with_reducible exact bN BK289.out _) | (with_reducible exact bd BK289.out) | ((with_reducible repeat first | apply bN | apply bd | apply ba); exact BK289.out)) hb); have n1_ := Aside0.mk (below_step (by repeat (first | (with_reducible first | exact HB.out | apply wa | apply wN | apply wd | refine ws ?_ GE289.out) | exact HB.out)) hb); have n2_ := Aside0.mk (hbox); have n3_ := Aside0.mk ((by rw [hg]; exact (below_size (by repeat (first | (with_reducible first | exact HB.out | apply wa | apply wN | apply wd | refine ws ?_ GE289.out) | exact HB.out))) : w.heap.size ≤ gb290)); have n4_ := n3_; have n5_ := Aside0.mk ((by rw [hg]; exact Nat.ne_of_lt (blk_lt (g := gb289) (by (with_reducible repeat first | apply bN | apply bd | apply ba); exact BK289.out)) : gb289 ≠ gb290)); have n6_ := Aside0.mk ((by rw [hg]; exact Nat.ne_of_gt (blk_lt (g := gb289) (by (with_reducible repeat first | apply bN | apply bd | apply ba); exact BK289.out)) : gb290 ≠ gb289)); clear BK289; clear HB; have BK289 := n0_; have HB := n1_; have BK290 := n2_; have GW290 := n3_; have GE290 := n4_; have NB289_290 := n5_; have NB290_289 := n6_; clear n0_ n1_ n2_ n3_ n4_ n5_ n6_; clear hb hbox hg; have hnb71 := NB290_289.out; have hnc71 := NB289_290.out; have hcz72_0 : w70.cell? ⟨gb290, 0, none⟩ = some (.int .i64 0) := (bc BK290.out 0).trans rfl; have hcz72_1 : w70.cell? ⟨gb290, 1, none⟩ = some (.int .i64 0) := (bc BK290.out 1).trans rfl; have hcz72_2 : w70.cell? ⟨gb290, 2, none⟩ = some (.slice none 0 0) := (bc BK290.out 2).trans rfl; have hfz72_0 := bz BK290.out 0; have hfz72_1 := bz BK290.out 1; have hfz72_2 := bz BK290.out 2; have hcz73_12 : w70.cell? ⟨gb289, 12, none⟩ = some (.bool false) := (bc BK289.out 12).trans rfl; have hcz73_13 : w70.cell? ⟨gb289, 13, none⟩ = some (.int .i64 a0_13) := (bc BK289.out 13).trans rfl; have hcz73_14 : w70.cell? ⟨gb289, 14, none⟩ = some (.int .i64 a0_14) := (bc BK289.out 14).trans rfl; have hcz73_15 : w70.cell? ⟨gb289, 15, none⟩ = some (.slice A0_15 l0_15.length c0_15) := (bc BK289.out 15).trans rfl; have hcz73_16 : w70.cell? ⟨gb289, 16, none⟩ = some (.slice A0_16 l0_16.length c0_16) := (bc BK289.out 16).trans rfl) | ((with_reducible refine gate_dst (N := 66) rfl ?_); refine wpList_load_row (P := Try.prog) rfl _ _ rfl gb289 ?hx _ _ _ _ (by (with_reducible repeat first | apply bN | apply bd | apply ba); with_reducible exact BK289.out) Try.underlying39 rfl (by kernel_rfl) ?_; (case hx => first | rfl | (go_simp; done))) | ((with_reducible refine gate_dst (N := 74) rfl ?_); refine wpList_load_row (P := Try.prog) rfl _ _ rfl gb289 ?hx _ _ _ _ (by (with_reducible repeat first | apply bN | apply bd | apply ba); with_reducible exact BK289.out) Try.underlying39 rfl (by kernel_rfl) ?_; (case hx => first | rfl | (go_simp; done))))
      go_ret
      exact ⟨by first | rfl | (simp [errW_none, errW_some] <;> rfl) | (simp [*, errW_none, errW_some] <;> rfl), by repeat (first | (with_reducible first | exact HB.out | apply wa | apply wN | apply wd | refine ws ?_ GE289.out | refine ws ?_ GE290.out) | exact HB.out)⟩
    rw [if_pos c54] at H
    have c54b0 : (a0_14 == 0) = true := beq_iff_eq.mpr c54
    have c54b1 : (a0_14 != 0) = false := bne_eq_false_iff_eq.mpr c54
    clear c54
    by_cases c55 : (l0_15.length : Int) = 0
    · rw [if_pos c55] at H
      have c55b0 : ((l0_15.length : Int) == 0) = true := beq_iff_eq.mpr c55
      have c55b1 : ((l0_15.length : Int) != 0) = false := bne_eq_false_iff_eq.mpr c55
      clear c55
      obtain rfl := Option.some.inj H
      go_enter Try.func77, Try.ntmps77
      go_wp2_with (first | ((with_reducible refine gate_dst (N := 2) rfl ?_); (try (refine gate_guard (by rfl) ?_; dsimp only)); refine box_event ?hg (N := 2) ?hd (cs := #[.int .i64 a0_0, .int .i64 a0_1, .string a0_2, .int .i64 a0_3, .int .i64 a0_4, .int .i64 a0_5, .int .i64 a0_6, .slice A0_7 l0_7.length c0_7, .int .i64 a0_8, .int .i64 a0_9, .slice A0_10 l0_10.length c0_10, .int .i64 a0_11, .bool false, .int .i64 a0_13, .int .i64 a0_14, .slice A0_15 l0_15.length c0_15, .slice A0_16 l0_16.length c0_16, .slice A0_17 l0_17.length c0_17]) (t := 39) ?hr ?_; (case hd => rfl); (case hg => rfl); (case hr => first | (go_simp; done) | (go_simp; rfl)); intro gb289 hg w56 hbox hb; have n0_ := Aside0.mk (below_step (by repeat (first | (with_reducible first | exact HB.out | apply wa | apply wN | apply wd) | exact HB.out)) hb); have n1_ := Aside0.mk (hbox); have n2_ := Aside0.mk ((by rw [hg]; exact (below_size (by repeat (first | (with_reducible first | exact HB.out | apply wa | apply wN | apply wd) | exact HB.out))) : w.heap.size ≤ gb289)); have n3_ := n2_; clear HB; have HB := n0_; have BK289 := n1_; have GW289 := n2_; have GE289 := n3_; clear n0_ n1_ n2_ n3_; clear hb hbox hg; have hcz57_12 : w56.cell? ⟨gb289, 12, none⟩ = some (.bool false) := (bc BK289.out 12).trans rfl; have hcz57_13 : w56.cell? ⟨gb289, 13, none⟩ = some (.int .i64 a0_13) := (bc BK289.out 13).trans rfl; have hcz57_14 : w56.cell? ⟨gb289, 14, none⟩ = some (.int .i64 a0_14) := (bc BK289.out 14).trans rfl; have hcz57_15 : w56.cell? ⟨gb289, 15, none⟩ = some (.slice A0_15 l0_15.length c0_15) := (bc BK289.out 15).trans rfl; have hcz57_16 : w56.cell? ⟨gb289, 16, none⟩ = some (.slice A0_16 l0_16.length c0_16) := (bc BK289.out 16).trans rfl) | ((with_reducible refine gate_dst (N := 5) rfl ?_); (try (refine gate_guard (by rfl) ?_; dsimp only)); refine box_event ?hg (N := 5) ?hd (cs := #[.int .i64 0, .int .i64 0, .slice none 0 0]) (t := 36) ?hr ?_; (case hd => rfl); (case hg => rfl); (case hr => first | (go_simp; done) | (go_simp; rfl)); intro gb290 hg w58 hbox hb; have n0_ := Aside0.mk (bb (g := gb289) (by first | (with_reducible exact BK289.out) | (with_reducible exact bN BK289.out _) | (with_reducible exact bd BK289.out) | ((with_reducible repeat first | apply bN | apply bd | apply ba); exact BK289.out)) hb); have n1_ := Aside0.mk (below_step (by repeat (first | (with_reducible first | exact HB.out | apply wa | apply wN | apply wd | refine ws ?_ GE289.out) | exact HB.out)) hb); have n2_ := Aside0.mk (hbox); have n3_ := Aside0.mk ((by rw [hg]; exact (below_size (by repeat (first | (with_reducible first | exact HB.out | apply wa | apply wN | apply wd | refine ws ?_ GE289.out) | exact HB.out))) : w.heap.size ≤ gb290)); have n4_ := n3_; have n5_ := Aside0.mk ((by rw [hg]; exact Nat.ne_of_lt (blk_lt (g := gb289) (by (with_reducible repeat first | apply bN | apply bd | apply ba); exact BK289.out)) : gb289 ≠ gb290)); have n6_ := Aside0.mk ((by rw [hg]; exact Nat.ne_of_gt (blk_lt (g := gb289) (by (with_reducible repeat first | apply bN | apply bd | apply ba); exact BK289.out)) : gb290 ≠ gb289)); clear BK289; clear HB; have BK289 := n0_; have HB := n1_; have BK290 := n2_; have GW290 := n3_; have GE290 := n4_; have NB289_290 := n5_; have NB290_289 := n6_; clear n0_ n1_ n2_ n3_ n4_ n5_ n6_; clear hb hbox hg; have hnb59 := NB290_289.out; have hnc59 := NB289_290.out; have hcz60_0 : w58.cell? ⟨gb290, 0, none⟩ = some (.int .i64 0) := (bc BK290.out 0).trans rfl; have hcz60_1 : w58.cell? ⟨gb290, 1, none⟩ = some (.int .i64 0) := (bc BK290.out 1).trans rfl; have hcz60_2 : w58.cell? ⟨gb290, 2, none⟩ = some (.slice none 0 0) := (bc BK290.out 2).trans rfl; have hfz60_0 := bz BK290.out 0; have hfz60_1 := bz BK290.out 1; have hfz60_2 := bz BK290.out 2; have hcz61_12 : w58.cell? ⟨gb289, 12, none⟩ = some (.bool false) := (bc BK289.out 12).trans rfl; have hcz61_13 : w58.cell? ⟨gb289, 13, none⟩ = some (.int .i64 a0_13) := (bc BK289.out 13).trans rfl; have hcz61_14 : w58.cell? ⟨gb289, 14, none⟩ = some (.int .i64 a0_14) := (bc BK289.out 14).trans rfl; have hcz61_15 : w58.cell? ⟨gb289, 15, none⟩ = some (.slice A0_15 l0_15.length c0_15) := (bc BK289.out 15).trans rfl; have hcz61_16 : w58.cell? ⟨gb289, 16, none⟩ = some (.slice A0_16 l0_16.length c0_16) := (bc BK289.out 16).trans rfl) | ((with_reducible refine gate_dst (N := 66) rfl ?_); refine wpList_load_row (P := Try.prog) rfl _ _ rfl gb289 ?hx _ _ _ _ (by (with_reducible repeat first | apply bN | apply bd | apply ba); with_reducible exact BK289.out) Try.underlying39 rfl (by kernel_rfl) ?_; (case hx => first | rfl | (go_simp; done))) | ((with_reducible refine gate_dst (N := 74) rfl ?_); refine wpList_load_row (P := Try.prog) rfl _ _ rfl gb289 ?hx _ _ _ _ (by (with_reducible repeat first | apply bN | apply bd | apply ba); with_reducible exact BK289.out) Try.underlying39 rfl (by kernel_rfl) ?_; (case hx => first | rfl | (go_simp; done))))
      go_ret
      exact ⟨by first | rfl | (simp [errW_none, errW_some] <;> rfl) | (simp [*, errW_none, errW_some] <;> rfl), by repeat (first | (with_reducible first | exact HB.out | apply wa | apply wN | apply wd | refine ws ?_ GE289.out | refine ws ?_ GE290.out) | exact HB.out)⟩
    rw [if_neg c55] at H
    have c55b0 : ((l0_15.length : Int) == 0) = false := beq_eq_false_iff_ne.mpr c55
    have c55b1 : ((l0_15.length : Int) != 0) = true := bne_iff_ne.mpr c55
    have c55b2 : ¬ (l0_15 = []) := fun h_ => c55 (by rw [h_]; rfl)
    obtain rfl := Option.some.inj H
    go_enter Try.func77, Try.ntmps77
    go_wp2_with (first | ((with_reducible refine gate_dst (N := 2) rfl ?_); (try (refine gate_guard (by rfl) ?_; dsimp only)); refine box_event ?hg (N := 2) ?hd (cs := #[.int .i64 a0_0, .int .i64 a0_1, .string a0_2, .int .i64 a0_3, .int .i64 a0_4, .int .i64 a0_5, .int .i64 a0_6, .slice A0_7 l0_7.length c0_7, .int .i64 a0_8, .int .i64 a0_9, .slice A0_10 l0_10.length c0_10, .int .i64 a0_11, .bool false, .int .i64 a0_13, .int .i64 a0_14, .slice A0_15 l0_15.length c0_15, .slice A0_16 l0_16.length c0_16, .slice A0_17 l0_17.length c0_17]) (t := 39) ?hr ?_; (case hd => rfl); (case hg => rfl); (case hr => first | (go_simp; done) | (go_simp; rfl)); intro gb289 hg w62 hbox hb; have n0_ := Aside0.mk (below_step (by repeat (first | (with_reducible first | exact HB.out | apply wa | apply wN | apply wd) | exact HB.out)) hb); have n1_ := Aside0.mk (hbox); have n2_ := Aside0.mk ((by rw [hg]; exact (below_size (by repeat (first | (with_reducible first | exact HB.out | apply wa | apply wN | apply wd) | exact HB.out))) : w.heap.size ≤ gb289)); have n3_ := n2_; clear HB; have HB := n0_; have BK289 := n1_; have GW289 := n2_; have GE289 := n3_; clear n0_ n1_ n2_ n3_; clear hb hbox hg; have hcz63_12 : w62.cell? ⟨gb289, 12, none⟩ = some (.bool false) := (bc BK289.out 12).trans rfl; have hcz63_13 : w62.cell? ⟨gb289, 13, none⟩ = some (.int .i64 a0_13) := (bc BK289.out 13).trans rfl; have hcz63_14 : w62.cell? ⟨gb289, 14, none⟩ = some (.int .i64 a0_14) := (bc BK289.out 14).trans rfl; have hcz63_15 : w62.cell? ⟨gb289, 15, none⟩ = some (.slice A0_15 l0_15.length c0_15) := (bc BK289.out 15).trans rfl; have hcz63_16 : w62.cell? ⟨gb289, 16, none⟩ = some (.slice A0_16 l0_16.length c0_16) := (bc BK289.out 16).trans rfl) | ((with_reducible refine gate_dst (N := 5) rfl ?_); (try (refine gate_guard (by rfl) ?_; dsimp only)); refine box_event ?hg (N := 5) ?hd (cs := #[.int .i64 0, .int .i64 0, .slice none 0 0]) (t := 36) ?hr ?_; (case hd => rfl); (case hg => rfl); (case hr => first | (go_simp; done) | (go_simp; rfl)); intro gb290 hg w64 hbox hb; have n0_ := Aside0.mk (bb (g := gb289) (by first | (with_reducible exact BK289.out) | (with_reducible exact bN BK289.out _) | (with_reducible exact bd BK289.out) | ((with_reducible repeat first | apply bN | apply bd | apply ba); exact BK289.out)) hb); have n1_ := Aside0.mk (below_step (by repeat (first | (with_reducible first | exact HB.out | apply wa | apply wN | apply wd | refine ws ?_ GE289.out) | exact HB.out)) hb); have n2_ := Aside0.mk (hbox); have n3_ := Aside0.mk ((by rw [hg]; exact (below_size (by repeat (first | (with_reducible first | exact HB.out | apply wa | apply wN | apply wd | refine ws ?_ GE289.out) | exact HB.out))) : w.heap.size ≤ gb290)); have n4_ := n3_; have n5_ := Aside0.mk ((by rw [hg]; exact Nat.ne_of_lt (blk_lt (g := gb289) (by (with_reducible repeat first | apply bN | apply bd | apply ba); exact BK289.out)) : gb289 ≠ gb290)); have n6_ := Aside0.mk ((by rw [hg]; exact Nat.ne_of_gt (blk_lt (g := gb289) (by (with_reducible repeat first | apply bN | apply bd | apply ba); exact BK289.out)) : gb290 ≠ gb289)); clear BK289; clear HB; have BK289 := n0_; have HB := n1_; have BK290 := n2_; have GW290 := n3_; have GE290 := n4_; have NB289_290 := n5_; have NB290_289 := n6_; clear n0_ n1_ n2_ n3_ n4_ n5_ n6_; clear hb hbox hg; have hnb65 := NB290_289.out; have hnc65 := NB289_290.out; have hcz66_0 : w64.cell? ⟨gb290, 0, none⟩ = some (.int .i64 0) := (bc BK290.out 0).trans rfl; have hcz66_1 : w64.cell? ⟨gb290, 1, none⟩ = some (.int .i64 0) := (bc BK290.out 1).trans rfl; have hcz66_2 : w64.cell? ⟨gb290, 2, none⟩ = some (.slice none 0 0) := (bc BK290.out 2).trans rfl; have hfz66_0 := bz BK290.out 0; have hfz66_1 := bz BK290.out 1; have hfz66_2 := bz BK290.out 2; have hcz67_12 : w64.cell? ⟨gb289, 12, none⟩ = some (.bool false) := (bc BK289.out 12).trans rfl; have hcz67_13 : w64.cell? ⟨gb289, 13, none⟩ = some (.int .i64 a0_13) := (bc BK289.out 13).trans rfl; have hcz67_14 : w64.cell? ⟨gb289, 14, none⟩ = some (.int .i64 a0_14) := (bc BK289.out 14).trans rfl; have hcz67_15 : w64.cell? ⟨gb289, 15, none⟩ = some (.slice A0_15 l0_15.length c0_15) := (bc BK289.out 15).trans rfl; have hcz67_16 : w64.cell? ⟨gb289, 16, none⟩ = some (.slice A0_16 l0_16.length c0_16) := (bc BK289.out 16).trans rfl) | ((with_reducible refine gate_dst (N := 66) rfl ?_); refine wpList_load_row (P := Try.prog) rfl _ _ rfl gb289 ?hx _ _ _ _ (by (with_reducible repeat first | apply bN | apply bd | apply ba); with_reducible exact BK289.out) Try.underlying39 rfl (by kernel_rfl) ?_; (case hx => first | rfl | (go_simp; done))) | ((with_reducible refine gate_dst (N := 74) rfl ?_); refine wpList_load_row (P := Try.prog) rfl _ _ rfl gb289 ?hx _ _ _ _ (by (with_reducible repeat first | apply bN | apply bd | apply ba); with_reducible exact BK289.out) Try.underlying39 rfl (by kernel_rfl) ?_; (case hx => first | rfl | (go_simp; done))))
    go_ret
    exact ⟨by first | rfl | (simp [errW_none, errW_some] <;> rfl) | (simp [*, errW_none, errW_some] <;> rfl), by repeat (first | (with_reducible first | exact HB.out | apply wa | apply wN | apply wd | refine ws ?_ GE289.out | refine ws ?_ GE290.out) | exact HB.out)⟩
  subst c3
  have H1 : (if a0_13 < 0 then (impl_jobsOk.j0 k a1 true a0_0 a0_1 a0_2 a0_3 a0_4 a0_5 a0_6 l0_7 a0_8 a0_9 l0_10 a0_11 true a0_13 a0_14 l0_15 l0_16 l0_17 a0_13 a0_14 l0_15) else (if a0_13 > 20 then (impl_jobsOk.j0 k a1 true a0_0 a0_1 a0_2 a0_3 a0_4 a0_5 a0_6 l0_7 a0_8 a0_9 l0_10 a0_11 true a0_13 a0_14 l0_15 l0_16 l0_17 a0_13 a0_14 l0_15) else (if (l0_16.length : Int) < 1 then (impl_jobsOk.j0 k a1 true a0_0 a0_1 a0_2 a0_3 a0_4 a0_5 a0_6 l0_7 a0_8 a0_9 l0_10 a0_11 true a0_13 a0_14 l0_15 l0_16 l0_17 a0_13 a0_14 l0_15) else (if (l0_16.length : Int) > 10 then (impl_jobsOk.j0 k a1 true a0_0 a0_1 a0_2 a0_3 a0_4 a0_5 a0_6 l0_7 a0_8 a0_9 l0_10 a0_11 true a0_13 a0_14 l0_15 l0_16 l0_17 a0_13 a0_14 l0_15) else (impl_jobsOk.j0 k a1 ((l0_16.length : Int) != (l0_15.length : Int)) a0_0 a0_1 a0_2 a0_3 a0_4 a0_5 a0_6 l0_7 a0_8 a0_9 l0_10 a0_11 true a0_13 a0_14 l0_15 l0_16 l0_17 a0_13 a0_14 l0_15))))) = some r := by rw [if_pos rfl] at H; exact H
  clear H
  have H := H1
  clear H1
  have HC4 := Aside0.mk H
  clear H
  go_enter Try.func77, Try.ntmps77
  go_upto_region 4 with (first | ((with_reducible refine gate_dst (N := 2) rfl ?_); (try (refine gate_guard (by rfl) ?_; dsimp only)); refine box_event ?hg (N := 2) ?hd (cs := #[.int .i64 a0_0, .int .i64 a0_1, .string a0_2, .int .i64 a0_3, .int .i64 a0_4, .int .i64 a0_5, .int .i64 a0_6, .slice A0_7 l0_7.length c0_7, .int .i64 a0_8, .int .i64 a0_9, .slice A0_10 l0_10.length c0_10, .int .i64 a0_11, .bool true, .int .i64 a0_13, .int .i64 a0_14, .slice A0_15 l0_15.length c0_15, .slice A0_16 l0_16.length c0_16, .slice A0_17 l0_17.length c0_17]) (t := 39) ?hr ?_; (case hd => rfl); (case hg => rfl); (case hr => first | (go_simp; done) | (go_simp; rfl)); intro gb289 hg w5 hbox hb; have n0_ := Aside0.mk (below_step (by repeat (first | (with_reducible first | exact HB.out | apply wa | apply wN | apply wd) | exact HB.out)) hb); have n1_ := Aside0.mk (hbox); have n2_ := Aside0.mk ((by rw [hg]; exact (below_size (by repeat (first | (with_reducible first | exact HB.out | apply wa | apply wN | apply wd) | exact HB.out))) : w.heap.size ≤ gb289)); have n3_ := n2_; clear HB; have HB := n0_; have BK289 := n1_; have GW289 := n2_; have GE289 := n3_; clear n0_ n1_ n2_ n3_; clear hb hbox hg; have hcz6_12 : w5.cell? ⟨gb289, 12, none⟩ = some (.bool true) := (bc BK289.out 12).trans rfl; have hcz6_13 : w5.cell? ⟨gb289, 13, none⟩ = some (.int .i64 a0_13) := (bc BK289.out 13).trans rfl; have hcz6_14 : w5.cell? ⟨gb289, 14, none⟩ = some (.int .i64 a0_14) := (bc BK289.out 14).trans rfl; have hcz6_15 : w5.cell? ⟨gb289, 15, none⟩ = some (.slice A0_15 l0_15.length c0_15) := (bc BK289.out 15).trans rfl; have hcz6_16 : w5.cell? ⟨gb289, 16, none⟩ = some (.slice A0_16 l0_16.length c0_16) := (bc BK289.out 16).trans rfl) | ((with_reducible refine gate_dst (N := 5) rfl ?_); (try (refine gate_guard (by rfl) ?_; dsimp only)); refine box_event ?hg (N := 5) ?hd (cs := #[.int .i64 0, .int .i64 0, .slice none 0 0]) (t := 36) ?hr ?_; (case hd => rfl); (case hg => rfl); (case hr => first | (go_simp; done) | (go_simp; rfl)); intro gb290 hg w7 hbox hb; have n0_ := Aside0.mk (bb (g := gb289) (by first | (with_reducible exact BK289.out) | (with_reducible exact bN BK289.out _) | (with_reducible exact bd BK289.out) | ((with_reducible repeat first | apply bN | apply bd | apply ba); exact BK289.out)) hb); have n1_ := Aside0.mk (below_step (by repeat (first | (with_reducible first | exact HB.out | apply wa | apply wN | apply wd | refine ws ?_ GE289.out) | exact HB.out)) hb); have n2_ := Aside0.mk (hbox); have n3_ := Aside0.mk ((by rw [hg]; exact (below_size (by repeat (first | (with_reducible first | exact HB.out | apply wa | apply wN | apply wd | refine ws ?_ GE289.out) | exact HB.out))) : w.heap.size ≤ gb290)); have n4_ := n3_; have n5_ := Aside0.mk ((by rw [hg]; exact Nat.ne_of_lt (blk_lt (g := gb289) (by (with_reducible repeat first | apply bN | apply bd | apply ba); exact BK289.out)) : gb289 ≠ gb290)); have n6_ := Aside0.mk ((by rw [hg]; exact Nat.ne_of_gt (blk_lt (g := gb289) (by (with_reducible repeat first | apply bN | apply bd | apply ba); exact BK289.out)) : gb290 ≠ gb289)); clear BK289; clear HB; have BK289 := n0_; have HB := n1_; have BK290 := n2_; have GW290 := n3_; have GE290 := n4_; have NB289_290 := n5_; have NB290_289 := n6_; clear n0_ n1_ n2_ n3_ n4_ n5_ n6_; clear hb hbox hg; have hnb8 := NB290_289.out; have hnc8 := NB289_290.out; have hcz9_0 : w7.cell? ⟨gb290, 0, none⟩ = some (.int .i64 0) := (bc BK290.out 0).trans rfl; have hcz9_1 : w7.cell? ⟨gb290, 1, none⟩ = some (.int .i64 0) := (bc BK290.out 1).trans rfl; have hcz9_2 : w7.cell? ⟨gb290, 2, none⟩ = some (.slice none 0 0) := (bc BK290.out 2).trans rfl; have hfz9_0 := bz BK290.out 0; have hfz9_1 := bz BK290.out 1; have hfz9_2 := bz BK290.out 2; have hcz10_12 : w7.cell? ⟨gb289, 12, none⟩ = some (.bool true) := (bc BK289.out 12).trans rfl; have hcz10_13 : w7.cell? ⟨gb289, 13, none⟩ = some (.int .i64 a0_13) := (bc BK289.out 13).trans rfl; have hcz10_14 : w7.cell? ⟨gb289, 14, none⟩ = some (.int .i64 a0_14) := (bc BK289.out 14).trans rfl; have hcz10_15 : w7.cell? ⟨gb289, 15, none⟩ = some (.slice A0_15 l0_15.length c0_15) := (bc BK289.out 15).trans rfl; have hcz10_16 : w7.cell? ⟨gb289, 16, none⟩ = some (.slice A0_16 l0_16.length c0_16) := (bc BK289.out 16).trans rfl))
  (try simp only [Act.put, List.setIfInBounds_toArray, List.set_cons_zero, List.set_cons_succ])
  go_cut [61] (fun v61 wc => ∃ (kq : Nat) (x61_3 : Bool), v61 = .bool x61_3 ∧ Aside0 (impl_jobsOk.j0 kq a1 x61_3 a0_0 a0_1 a0_2 a0_3 a0_4 a0_5 a0_6 l0_7 a0_8 a0_9 l0_10 a0_11 true a0_13 a0_14 l0_15 l0_16 l0_17 a0_13 a0_14 l0_15 = some r) ∧ Aside0 (kq ≤ k) ∧ Aside0 (wc.heap[gb289]? = some (.cells #[.int .i64 a0_0, .int .i64 a0_1, .string a0_2, .int .i64 a0_3, .int .i64 a0_4, .int .i64 a0_5, .int .i64 a0_6, (.slice A0_7 l0_7.length c0_7), .int .i64 a0_8, .int .i64 a0_9, (.slice A0_10 l0_10.length c0_10), .int .i64 a0_11, .bool true, .int .i64 a0_13, .int .i64 a0_14, (.slice A0_15 l0_15.length c0_15), (.slice A0_16 l0_16.length c0_16), (.slice A0_17 l0_17.length c0_17)] 39 (0, 0))) ∧ Aside0 (wc.heap[gb290]? = some (.cells #[.int .i64 a0_13, .int .i64 a0_14, (.slice A0_15 l0_15.length c0_15)] 36 (0, 0))) ∧ Aside0 (Below w.heap.size w wc))
  case first =>
    have H := HC4.out
    clear HC4
    by_cases c11 : a0_13 < 0
    · rw [if_pos c11] at H
      have c11b0 : decide (a0_13 < 0) = true := decide_eq_true c11
      clear c11
      (first | rw [c11b0] | (simp only [i64_w, i32_w]; rw [c11b0]) | skip)
      have H' := Aside0.mk H
      clear H
      have hnb12 := NB290_289.out
      have hnc12 := NB289_290.out
      have hcz13_0 : w7.cell? ⟨gb290, 0, none⟩ = some (.int .i64 0) := (bc BK290.out 0).trans rfl
      have hcz13_1 : w7.cell? ⟨gb290, 1, none⟩ = some (.int .i64 0) := (bc BK290.out 1).trans rfl
      have hcz13_2 : w7.cell? ⟨gb290, 2, none⟩ = some (.slice none 0 0) := (bc BK290.out 2).trans rfl
      have hfz13_0 := bz BK290.out 0
      have hfz13_1 := bz BK290.out 1
      have hfz13_2 := bz BK290.out 2
      go_wp2_with (first | ((with_reducible refine gate_dst (N := 66) rfl ?_); refine wpList_load_row (P := Try.prog) rfl _ _ rfl gb289 ?hx _ _ _ _ (by (with_reducible repeat first | apply bN | apply bd | apply ba); with_reducible exact BK289.out) Try.underlying39 rfl (by kernel_rfl) ?_; (case hx => first | rfl | (go_simp; done))) | ((with_reducible refine gate_dst (N := 74) rfl ?_); refine wpList_load_row (P := Try.prog) rfl _ _ rfl gb289 ?hx _ _ _ _ (by (with_reducible repeat first | apply bN | apply bd | apply ba); with_reducible exact BK289.out) Try.underlying39 rfl (by kernel_rfl) ?_; (case hx => first | rfl | (go_simp; done))))
      go_meet
      case rel => exact ⟨_, (true), (by first | rfl | (simp; done) | (simp [*]; done)), H', ⟨by first | omega | exact Nat.le_refl _⟩, ⟨by (with_reducible repeat first | apply bN | apply bd | apply ba); refine blk_far ?_ NB289_290.out _; (with_reducible repeat first | apply bN | apply bd | apply ba); refine blk_far ?_ NB289_290.out _; (with_reducible repeat first | apply bN | apply bd | apply ba); refine blk_far ?_ NB289_290.out _; (with_reducible repeat first | apply bN | apply bd | apply ba); exact BK289.out⟩, ⟨by (with_reducible repeat first | apply bN | apply bd | apply ba); refine blk_put (cs := #[.int .i64 a0_13, .int .i64 a0_14, .slice none 0 0]) ?_ 2 _ rfl; (with_reducible repeat first | apply bN | apply bd | apply ba); refine blk_put (cs := #[.int .i64 a0_13, .int .i64 0, .slice none 0 0]) ?_ 1 _ rfl; (with_reducible repeat first | apply bN | apply bd | apply ba); refine blk_put (cs := #[.int .i64 0, .int .i64 0, .slice none 0 0]) ?_ 0 _ rfl; (with_reducible repeat first | apply bN | apply bd | apply ba); exact BK290.out⟩, ⟨by repeat (first | (with_reducible first | exact HB.out | apply wa | apply wN | apply wd | refine ws ?_ GE289.out | refine ws ?_ GE290.out) | exact HB.out)⟩⟩
    rw [if_neg c11] at H
    have c11b0 : decide (a0_13 < 0) = false := decide_eq_false c11
    clear c11
    (first | rw [c11b0] | (simp only [i64_w, i32_w]; rw [c11b0]) | skip)
    by_cases c14 : a0_13 > 20
    · rw [if_pos c14] at H
      have c14b0 : decide (20 < a0_13) = true := decide_eq_true c14
      clear c14
      have H' := Aside0.mk H
      clear H
      have hnb15 := NB290_289.out
      have hnc15 := NB289_290.out
      have hcz16_0 : w7.cell? ⟨gb290, 0, none⟩ = some (.int .i64 0) := (bc BK290.out 0).trans rfl
      have hcz16_1 : w7.cell? ⟨gb290, 1, none⟩ = some (.int .i64 0) := (bc BK290.out 1).trans rfl
      have hcz16_2 : w7.cell? ⟨gb290, 2, none⟩ = some (.slice none 0 0) := (bc BK290.out 2).trans rfl
      have hfz16_0 := bz BK290.out 0
      have hfz16_1 := bz BK290.out 1
      have hfz16_2 := bz BK290.out 2
      go_wp2_with (first | ((with_reducible refine gate_dst (N := 66) rfl ?_); refine wpList_load_row (P := Try.prog) rfl _ _ rfl gb289 ?hx _ _ _ _ (by (with_reducible repeat first | apply bN | apply bd | apply ba); with_reducible exact BK289.out) Try.underlying39 rfl (by kernel_rfl) ?_; (case hx => first | rfl | (go_simp; done))) | ((with_reducible refine gate_dst (N := 74) rfl ?_); refine wpList_load_row (P := Try.prog) rfl _ _ rfl gb289 ?hx _ _ _ _ (by (with_reducible repeat first | apply bN | apply bd | apply ba); with_reducible exact BK289.out) Try.underlying39 rfl (by kernel_rfl) ?_; (case hx => first | rfl | (go_simp; done))))
      go_meet
      case rel => exact ⟨_, (true), (by first | rfl | (simp; done) | (simp [*]; done)), H', ⟨by first | omega | exact Nat.le_refl _⟩, ⟨by (with_reducible repeat first | apply bN | apply bd | apply ba); refine blk_far ?_ NB289_290.out _; (with_reducible repeat first | apply bN | apply bd | apply ba); refine blk_far ?_ NB289_290.out _; (with_reducible repeat first | apply bN | apply bd | apply ba); refine blk_far ?_ NB289_290.out _; (with_reducible repeat first | apply bN | apply bd | apply ba); exact BK289.out⟩, ⟨by (with_reducible repeat first | apply bN | apply bd | apply ba); refine blk_put (cs := #[.int .i64 a0_13, .int .i64 a0_14, .slice none 0 0]) ?_ 2 _ rfl; (with_reducible repeat first | apply bN | apply bd | apply ba); refine blk_put (cs := #[.int .i64 a0_13, .int .i64 0, .slice none 0 0]) ?_ 1 _ rfl; (with_reducible repeat first | apply bN | apply bd | apply ba); refine blk_put (cs := #[.int .i64 0, .int .i64 0, .slice none 0 0]) ?_ 0 _ rfl; (with_reducible repeat first | apply bN | apply bd | apply ba); exact BK290.out⟩, ⟨by repeat (first | (with_reducible first | exact HB.out | apply wa | apply wN | apply wd | refine ws ?_ GE289.out | refine ws ?_ GE290.out) | exact HB.out)⟩⟩
    rw [if_neg c14] at H
    have c14b0 : decide (20 < a0_13) = false := decide_eq_false c14
    clear c14
    by_cases c17 : (l0_16.length : Int) < 1
    · rw [if_pos c17] at H
      have c17b0 : decide ((l0_16.length : Int) < 1) = true := decide_eq_true c17
      have c17b1 : decide (l0_16.length < 1) = true := decide_eq_true (by omega)
      clear c17
      have H' := Aside0.mk H
      clear H
      have hnb18 := NB290_289.out
      have hnc18 := NB289_290.out
      have hcz19_0 : w7.cell? ⟨gb290, 0, none⟩ = some (.int .i64 0) := (bc BK290.out 0).trans rfl
      have hcz19_1 : w7.cell? ⟨gb290, 1, none⟩ = some (.int .i64 0) := (bc BK290.out 1).trans rfl
      have hcz19_2 : w7.cell? ⟨gb290, 2, none⟩ = some (.slice none 0 0) := (bc BK290.out 2).trans rfl
      have hfz19_0 := bz BK290.out 0
      have hfz19_1 := bz BK290.out 1
      have hfz19_2 := bz BK290.out 2
      have hcz20_12 : w7.cell? ⟨gb289, 12, none⟩ = some (.bool true) := (bc BK289.out 12).trans rfl
      have hcz20_13 : w7.cell? ⟨gb289, 13, none⟩ = some (.int .i64 a0_13) := (bc BK289.out 13).trans rfl
      have hcz20_14 : w7.cell? ⟨gb289, 14, none⟩ = some (.int .i64 a0_14) := (bc BK289.out 14).trans rfl
      have hcz20_15 : w7.cell? ⟨gb289, 15, none⟩ = some (.slice A0_15 l0_15.length c0_15) := (bc BK289.out 15).trans rfl
      have hcz20_16 : w7.cell? ⟨gb289, 16, none⟩ = some (.slice A0_16 l0_16.length c0_16) := (bc BK289.out 16).trans rfl
      go_wp2_with (first | ((with_reducible refine gate_dst (N := 66) rfl ?_); refine wpList_load_row (P := Try.prog) rfl _ _ rfl gb289 ?hx _ _ _ _ (by (with_reducible repeat first | apply bN | apply bd | apply ba); with_reducible exact BK289.out) Try.underlying39 rfl (by kernel_rfl) ?_; (case hx => first | rfl | (go_simp; done))) | ((with_reducible refine gate_dst (N := 74) rfl ?_); refine wpList_load_row (P := Try.prog) rfl _ _ rfl gb289 ?hx _ _ _ _ (by (with_reducible repeat first | apply bN | apply bd | apply ba); with_reducible exact BK289.out) Try.underlying39 rfl (by kernel_rfl) ?_; (case hx => first | rfl | (go_simp; done))))
      go_meet
      case rel => exact ⟨_, (true), (by first | rfl | (simp; done) | (simp [*]; done)), H', ⟨by first | omega | exact Nat.le_refl _⟩, ⟨by (with_reducible repeat first | apply bN | apply bd | apply ba); refine blk_far ?_ NB289_290.out _; (with_reducible repeat first | apply bN | apply bd | apply ba); refine blk_far ?_ NB289_290.out _; (with_reducible repeat first | apply bN | apply bd | apply ba); refine blk_far ?_ NB289_290.out _; (with_reducible repeat first | apply bN | apply bd | apply ba); exact BK289.out⟩, ⟨by (with_reducible repeat first | apply bN | apply bd | apply ba); refine blk_put (cs := #[.int .i64 a0_13, .int .i64 a0_14, .slice none 0 0]) ?_ 2 _ rfl; (with_reducible repeat first | apply bN | apply bd | apply ba); refine blk_put (cs := #[.int .i64 a0_13, .int .i64 0, .slice none 0 0]) ?_ 1 _ rfl; (with_reducible repeat first | apply bN | apply bd | apply ba); refine blk_put (cs := #[.int .i64 0, .int .i64 0, .slice none 0 0]) ?_ 0 _ rfl; (with_reducible repeat first | apply bN | apply bd | apply ba); exact BK290.out⟩, ⟨by repeat (first | (with_reducible first | exact HB.out | apply wa | apply wN | apply wd | refine ws ?_ GE289.out | refine ws ?_ GE290.out) | exact HB.out)⟩⟩
    rw [if_neg c17] at H
    have c17b0 : decide ((l0_16.length : Int) < 1) = false := decide_eq_false c17
    have c17b1 : decide (l0_16.length < 1) = false := decide_eq_false (by omega)
    clear c17
    by_cases c21 : (l0_16.length : Int) > 10
    · rw [if_pos c21] at H
      have c21b0 : decide (10 < (l0_16.length : Int)) = true := decide_eq_true c21
      have c21b1 : decide (10 < l0_16.length) = true := decide_eq_true (by omega)
      clear c21
      have H' := Aside0.mk H
      clear H
      have hnb22 := NB290_289.out
      have hnc22 := NB289_290.out
      have hcz23_0 : w7.cell? ⟨gb290, 0, none⟩ = some (.int .i64 0) := (bc BK290.out 0).trans rfl
      have hcz23_1 : w7.cell? ⟨gb290, 1, none⟩ = some (.int .i64 0) := (bc BK290.out 1).trans rfl
      have hcz23_2 : w7.cell? ⟨gb290, 2, none⟩ = some (.slice none 0 0) := (bc BK290.out 2).trans rfl
      have hfz23_0 := bz BK290.out 0
      have hfz23_1 := bz BK290.out 1
      have hfz23_2 := bz BK290.out 2
      have hcz24_12 : w7.cell? ⟨gb289, 12, none⟩ = some (.bool true) := (bc BK289.out 12).trans rfl
      have hcz24_13 : w7.cell? ⟨gb289, 13, none⟩ = some (.int .i64 a0_13) := (bc BK289.out 13).trans rfl
      have hcz24_14 : w7.cell? ⟨gb289, 14, none⟩ = some (.int .i64 a0_14) := (bc BK289.out 14).trans rfl
      have hcz24_15 : w7.cell? ⟨gb289, 15, none⟩ = some (.slice A0_15 l0_15.length c0_15) := (bc BK289.out 15).trans rfl
      have hcz24_16 : w7.cell? ⟨gb289, 16, none⟩ = some (.slice A0_16 l0_16.length c0_16) := (bc BK289.out 16).trans rfl
      go_wp2_with (first | ((with_reducible refine gate_dst (N := 66) rfl ?_); refine wpList_load_row (P := Try.prog) rfl _ _ rfl gb289 ?hx _ _ _ _ (by (with_reducible repeat first | apply bN | apply bd | apply ba); with_reducible exact BK289.out) Try.underlying39 rfl (by kernel_rfl) ?_; (case hx => first | rfl | (go_simp; done))) | ((with_reducible refine gate_dst (N := 74) rfl ?_); refine wpList_load_row (P := Try.prog) rfl _ _ rfl gb289 ?hx _ _ _ _ (by (with_reducible repeat first | apply bN | apply bd | apply ba); with_reducible exact BK289.out) Try.underlying39 rfl (by kernel_rfl) ?_; (case hx => first | rfl | (go_simp; done))))
      go_meet
      case rel => exact ⟨_, (true), (by first | rfl | (simp; done) | (simp [*]; done)), H', ⟨by first | omega | exact Nat.le_refl _⟩, ⟨by (with_reducible repeat first | apply bN | apply bd | apply ba); refine blk_far ?_ NB289_290.out _; (with_reducible repeat first | apply bN | apply bd | apply ba); refine blk_far ?_ NB289_290.out _; (with_reducible repeat first | apply bN | apply bd | apply ba); refine blk_far ?_ NB289_290.out _; (with_reducible repeat first | apply bN | apply bd | apply ba); exact BK289.out⟩, ⟨by (with_reducible repeat first | apply bN | apply bd | apply ba); refine blk_put (cs := #[.int .i64 a0_13, .int .i64 a0_14, .slice none 0 0]) ?_ 2 _ rfl; (with_reducible repeat first | apply bN | apply bd | apply ba); refine blk_put (cs := #[.int .i64 a0_13, .int .i64 0, .slice none 0 0]) ?_ 1 _ rfl; (with_reducible repeat first | apply bN | apply bd | apply ba); refine blk_put (cs := #[.int .i64 0, .int .i64 0, .slice none 0 0]) ?_ 0 _ rfl; (with_reducible repeat first | apply bN | apply bd | apply ba); exact BK290.out⟩, ⟨by repeat (first | (with_reducible first | exact HB.out | apply wa | apply wN | apply wd | refine ws ?_ GE289.out | refine ws ?_ GE290.out) | exact HB.out)⟩⟩
    rw [if_neg c21] at H
    have c21b0 : decide (10 < (l0_16.length : Int)) = false := decide_eq_false c21
    have c21b1 : decide (10 < l0_16.length) = false := decide_eq_false (by omega)
    clear c21
    have H' := Aside0.mk H
    clear H
    have hnb25 := NB290_289.out
    have hnc25 := NB289_290.out
    have hcz26_0 : w7.cell? ⟨gb290, 0, none⟩ = some (.int .i64 0) := (bc BK290.out 0).trans rfl
    have hcz26_1 : w7.cell? ⟨gb290, 1, none⟩ = some (.int .i64 0) := (bc BK290.out 1).trans rfl
    have hcz26_2 : w7.cell? ⟨gb290, 2, none⟩ = some (.slice none 0 0) := (bc BK290.out 2).trans rfl
    have hfz26_0 := bz BK290.out 0
    have hfz26_1 := bz BK290.out 1
    have hfz26_2 := bz BK290.out 2
    have hcz27_12 : w7.cell? ⟨gb289, 12, none⟩ = some (.bool true) := (bc BK289.out 12).trans rfl
    have hcz27_13 : w7.cell? ⟨gb289, 13, none⟩ = some (.int .i64 a0_13) := (bc BK289.out 13).trans rfl
    have hcz27_14 : w7.cell? ⟨gb289, 14, none⟩ = some (.int .i64 a0_14) := (bc BK289.out 14).trans rfl
    have hcz27_15 : w7.cell? ⟨gb289, 15, none⟩ = some (.slice A0_15 l0_15.length c0_15) := (bc BK289.out 15).trans rfl
    have hcz27_16 : w7.cell? ⟨gb289, 16, none⟩ = some (.slice A0_16 l0_16.length c0_16) := (bc BK289.out 16).trans rfl
    go_wp2_with (first | ((with_reducible refine gate_dst (N := 66) rfl ?_); refine wpList_load_row (P := Try.prog) rfl _ _ rfl gb289 ?hx _ _ _ _ (by (with_reducible repeat first | apply bN | apply bd | apply ba); with_reducible exact BK289.out) Try.underlying39 rfl (by kernel_rfl) ?_; (case hx => first | rfl | (go_simp; done))) | ((with_reducible refine gate_dst (N := 74) rfl ?_); refine wpList_load_row (P := Try.prog) rfl _ _ rfl gb289 ?hx _ _ _ _ (by (with_reducible repeat first | apply bN | apply bd | apply ba); with_reducible exact BK289.out) Try.underlying39 rfl (by kernel_rfl) ?_; (case hx => first | rfl | (go_simp; done))))
    go_meet
    case rel => exact ⟨_, (((l0_16.length : Int) != (l0_15.length : Int))), (by first | rfl | (simp; done) | (simp [*]; done)), H', ⟨by first | omega | exact Nat.le_refl _⟩, ⟨by (with_reducible repeat first | apply bN | apply bd | apply ba); refine blk_far ?_ NB289_290.out _; (with_reducible repeat first | apply bN | apply bd | apply ba); refine blk_far ?_ NB289_290.out _; (with_reducible repeat first | apply bN | apply bd | apply ba); refine blk_far ?_ NB289_290.out _; (with_reducible repeat first | apply bN | apply bd | apply ba); exact BK289.out⟩, ⟨by (with_reducible repeat first | apply bN | apply bd | apply ba); refine blk_put (cs := #[.int .i64 a0_13, .int .i64 a0_14, .slice none 0 0]) ?_ 2 _ rfl; (with_reducible repeat first | apply bN | apply bd | apply ba); refine blk_put (cs := #[.int .i64 a0_13, .int .i64 0, .slice none 0 0]) ?_ 1 _ rfl; (with_reducible repeat first | apply bN | apply bd | apply ba); refine blk_put (cs := #[.int .i64 0, .int .i64 0, .slice none 0 0]) ?_ 0 _ rfl; (with_reducible repeat first | apply bN | apply bd | apply ba); exact BK290.out⟩, ⟨by repeat (first | (with_reducible first | exact HB.out | apply wa | apply wN | apply wd | refine ws ?_ GE289.out | refine ws ?_ GE290.out) | exact HB.out)⟩⟩
  case rest =>
    clear HC4
    try clear c1
    try clear c2
    try clear p2
    try clear c3
    try clear c7
    try clear c8
    try clear c11
    try clear c11b0
    try clear c12
    try clear c14
    try clear c14b0
    try clear c15
    try clear c17
    try clear c17b0
    try clear c17b1
    try clear c18
    try clear c21
    try clear c21b0
    try clear c21b1
    try clear c22
    try clear c25
    try clear hcz10_12
    try clear hcz10_13
    try clear hcz10_14
    try clear hcz10_15
    try clear hcz10_16
    try clear hcz13_0
    try clear hcz13_1
    try clear hcz13_2
    try clear hcz16_0
    try clear hcz16_1
    try clear hcz16_2
    try clear hcz19_0
    try clear hcz19_1
    try clear hcz19_2
    try clear hcz20_12
    try clear hcz20_13
    try clear hcz20_14
    try clear hcz20_15
    try clear hcz20_16
    try clear hcz23_0
    try clear hcz23_1
    try clear hcz23_2
    try clear hcz24_12
    try clear hcz24_13
    try clear hcz24_14
    try clear hcz24_15
    try clear hcz24_16
    try clear hcz26_0
    try clear hcz26_1
    try clear hcz26_2
    try clear hcz27_12
    try clear hcz27_13
    try clear hcz27_14
    try clear hcz27_15
    try clear hcz27_16
    try clear hcz6_12
    try clear hcz6_13
    try clear hcz6_14
    try clear hcz6_15
    try clear hcz6_16
    try clear hcz9_0
    try clear hcz9_1
    try clear hcz9_2
    try clear hfz13_0
    try clear hfz13_1
    try clear hfz13_2
    try clear hfz16_0
    try clear hfz16_1
    try clear hfz16_2
    try clear hfz19_0
    try clear hfz19_1
    try clear hfz19_2
    try clear hfz23_0
    try clear hfz23_1
    try clear hfz23_2
    try clear hfz26_0
    try clear hfz26_1
    try clear hfz26_2
    try clear hfz9_0
    try clear hfz9_1
    try clear hfz9_2
    obtain ⟨kq, x61_3, rfl, HA, HJ3, BK289, BK290, HB⟩ := hcut
    cases kq with
    | zero => exact absurd HA.out (by simp [impl_jobsOk.j0])
    | succ kj3 =>
      have H := HA.out
      clear HA
      simp only [impl_jobsOk.j0] at H
      by_cases c28 : x61_3 = true
      · subst c28
        have H1 : (some false) = some r := by rw [if_pos rfl] at H; exact H
        clear H
        have H := H1
        clear H1
        obtain rfl := Option.some.inj H
        go_wp2_with (first | ((with_reducible refine gate_dst (N := 66) rfl ?_); refine wpList_load_row (P := Try.prog) rfl _ _ rfl gb289 ?hx _ _ _ _ (by (with_reducible repeat first | apply bN | apply bd | apply ba); with_reducible exact BK289.out) Try.underlying39 rfl (by kernel_rfl) ?_; (case hx => first | rfl | (go_simp; done))) | ((with_reducible refine gate_dst (N := 74) rfl ?_); refine wpList_load_row (P := Try.prog) rfl _ _ rfl gb289 ?hx _ _ _ _ (by (with_reducible repeat first | apply bN | apply bd | apply ba); with_reducible exact BK289.out) Try.underlying39 rfl (by kernel_rfl) ?_; (case hx => first | rfl | (go_simp; done))))
        go_ret
        exact ⟨by first | rfl | (simp [errW_none, errW_some] <;> rfl) | (simp [*, errW_none, errW_some] <;> rfl), by repeat (first | (with_reducible first | exact HB.out | apply wa | apply wN | apply wd | refine ws ?_ GE289.out | refine ws ?_ GE290.out) | exact HB.out)⟩
      replace c28 := Bool.eq_false_iff.mpr c28
      subst c28
      have H1 : ((impl_jobsOk_1.f l0_15 a0_13 a0_14 l0_15).bind fun t291 => (if t291 = true then (some false) else ((impl_LayerOf.f a0_0 a0_1 a0_2 a0_3 a0_4 a0_5 a0_6 l0_7 a0_8 a0_9 l0_10 a0_11 true a0_13 a0_14 l0_15 l0_16 l0_17).bind fun t292 => (impl_jobsOk.l0 kj3 a1 t292 (l0_16.length : Int) 0 a0_0 a0_1 a0_2 a0_3 a0_4 a0_5 a0_6 l0_7 a0_8 a0_9 l0_10 a0_11 true a0_13 a0_14 l0_15 l0_16 l0_17 a0_13 a0_14 l0_15)))) = some r := by rw [if_neg (show ¬ (false = true) by decide)] at H; exact H
      clear H
      have H := H1
      clear H1
      replace H := Option.bind_eq_some_iff.mp H
      obtain ⟨t291, A290, H⟩ := H
      replace H : (if t291 = true then (some false) else ((impl_LayerOf.f a0_0 a0_1 a0_2 a0_3 a0_4 a0_5 a0_6 l0_7 a0_8 a0_9 l0_10 a0_11 true a0_13 a0_14 l0_15 l0_16 l0_17).bind fun t292 => (impl_jobsOk.l0 kj3 a1 t292 (l0_16.length : Int) 0 a0_0 a0_1 a0_2 a0_3 a0_4 a0_5 a0_6 l0_7 a0_8 a0_9 l0_10 a0_11 true a0_13 a0_14 l0_15 l0_16 l0_17 a0_13 a0_14 l0_15))) = some r := H
      have A29 := Aside0.mk A290
      clear A290
      by_cases c30 : t291 = true
      · subst c30
        have H1 : (some false) = some r := by rw [if_pos rfl] at H; exact H
        clear H
        have H := H1
        clear H1
        obtain rfl := Option.some.inj H
        have hnb31 := NB290_289.out
        have hnc31 := NB289_290.out
        have hcz32_0 : wc.cell? ⟨gb290, 0, none⟩ = some (.int .i64 a0_13) := (bc BK290.out 0).trans rfl
        have hcz32_1 : wc.cell? ⟨gb290, 1, none⟩ = some (.int .i64 a0_14) := (bc BK290.out 1).trans rfl
        have hcz32_2 : wc.cell? ⟨gb290, 2, none⟩ = some (.slice A0_15 l0_15.length c0_15) := (bc BK290.out 2).trans rfl
        have hfz32_0 := bz BK290.out 0
        have hfz32_1 := bz BK290.out 1
        have hfz32_2 := bz BK290.out 2
        go_wp2_with (first | ((with_reducible refine gate_callee (f := 119) rfl ?_); refine goesL_ (some 65) rfl rfl Try.func119 (by kernel_rfl) rfl #[.slice A0_15 l0_15.length c0_15, .func (.func 120) #[] #[.pointer (some ⟨gb290, 0, none⟩)]] rfl (by (try simp only [List.map_toArray, List.map_cons, List.map_nil]); first | done | rfl | (simp only [List.length_drop, List.length_take]; rfl)) ?_; (with_reducible refine (impl_jobsOk_1.calls _ _ l0_15 a0_13 a0_14 A0_15 c0_15 l0_15 true _ ?side1 ?side2 ?side3 ?side4 ?side5 A29.out).mono ?_); (case side1 => exact (by (with_reducible repeat first | apply bN | apply bd | apply ba); exact BK290.out)); (case side2 => repeat (first | exact (Kd.C_below HR0_15.out HB.out) | (with_reducible refine Kd.Ca ?_ _) | (with_reducible refine Kd.Cn ?_ _) | (with_reducible refine Kd.Cd ?_))); (case side3 => exact HC0_15.out); (case side4 => repeat (first | exact (Kd.C_below HR0_15.out HB.out) | (with_reducible refine Kd.Ca ?_ _) | (with_reducible refine Kd.Cn ?_ _) | (with_reducible refine Kd.Cd ?_))); (case side5 => exact HC0_15.out); rintro e w33 ⟨rfl, hb⟩; refine ⟨_, rfl, ?_⟩; have n0_ := Aside0.mk (bb (g := gb289) (by first | (with_reducible exact BK289.out) | (with_reducible exact bN BK289.out _) | (with_reducible exact bd BK289.out) | ((with_reducible repeat first | apply bN | apply bd | apply ba); exact BK289.out)) hb); have n1_ := Aside0.mk (bb (g := gb290) (by first | (with_reducible exact BK290.out) | (with_reducible exact bN BK290.out _) | (with_reducible exact bd BK290.out) | ((with_reducible repeat first | apply bN | apply bd | apply ba); exact BK290.out)) hb); have n2_ := Aside0.mk (below_step (by repeat (first | (with_reducible first | exact HB.out | apply wa | apply wN | apply wd | refine ws ?_ GE289.out | refine ws ?_ GE290.out) | exact HB.out)) hb); clear BK289; clear BK290; clear HB; have BK289 := n0_; have BK290 := n1_; have HB := n2_; clear n0_ n1_ n2_; (try clear hb); (try clear hb2); (try clear hk); (try clear hi)) | ((with_reducible refine gate_dst (N := 66) rfl ?_); refine wpList_load_row (P := Try.prog) rfl _ _ rfl gb289 ?hx _ _ _ _ (by (with_reducible repeat first | apply bN | apply bd | apply ba); with_reducible exact BK289.out) Try.underlying39 rfl (by kernel_rfl) ?_; (case hx => first | rfl | (go_simp; done))) | ((with_reducible refine gate_dst (N := 74) rfl ?_); refine wpList_load_row (P := Try.prog) rfl _ _ rfl gb289 ?hx _ _ _ _ (by (with_reducible repeat first | apply bN | apply bd | apply ba); with_reducible exact BK289.out) Try.underlying39 rfl (by kernel_rfl) ?_; (case hx => first | rfl | (go_simp; done))))
        go_ret
        exact ⟨by first | rfl | (simp [errW_none, errW_some] <;> rfl) | (simp [*, errW_none, errW_some] <;> rfl), by repeat (first | (with_reducible first | exact HB.out | apply wa | apply wN | apply wd | refine ws ?_ GE289.out | refine ws ?_ GE290.out) | exact HB.out)⟩
      replace c30 := Bool.eq_false_iff.mpr c30
      subst c30
      have H1 : ((impl_LayerOf.f a0_0 a0_1 a0_2 a0_3 a0_4 a0_5 a0_6 l0_7 a0_8 a0_9 l0_10 a0_11 true a0_13 a0_14 l0_15 l0_16 l0_17).bind fun t292 => (impl_jobsOk.l0 kj3 a1 t292 (l0_16.length : Int) 0 a0_0 a0_1 a0_2 a0_3 a0_4 a0_5 a0_6 l0_7 a0_8 a0_9 l0_10 a0_11 true a0_13 a0_14 l0_15 l0_16 l0_17 a0_13 a0_14 l0_15)) = some r := by rw [if_neg (show ¬ (false = true) by decide)] at H; exact H
      clear H
      have H := H1
      clear H1
      replace H := Option.bind_eq_some_iff.mp H
      obtain ⟨t292, A340, H⟩ := H
      replace H : (impl_jobsOk.l0 kj3 a1 t292 (l0_16.length : Int) 0 a0_0 a0_1 a0_2 a0_3 a0_4 a0_5 a0_6 l0_7 a0_8 a0_9 l0_10 a0_11 true a0_13 a0_14 l0_15 l0_16 l0_17 a0_13 a0_14 l0_15) = some r := H
      have A34 := Aside0.mk A340
      clear A340
      have H' := Aside0.mk H
      clear H
      have hnb35 := NB290_289.out
      have hnc35 := NB289_290.out
      have hcz36_0 : wc.cell? ⟨gb290, 0, none⟩ = some (.int .i64 a0_13) := (bc BK290.out 0).trans rfl
      have hcz36_1 : wc.cell? ⟨gb290, 1, none⟩ = some (.int .i64 a0_14) := (bc BK290.out 1).trans rfl
      have hcz36_2 : wc.cell? ⟨gb290, 2, none⟩ = some (.slice A0_15 l0_15.length c0_15) := (bc BK290.out 2).trans rfl
      have hfz36_0 := bz BK290.out 0
      have hfz36_1 := bz BK290.out 1
      have hfz36_2 := bz BK290.out 2
      go_wp2_with (first | ((with_reducible refine gate_callee (f := 119) rfl ?_); refine goesL_ (some 65) rfl rfl Try.func119 (by kernel_rfl) rfl #[.slice A0_15 l0_15.length c0_15, .func (.func 120) #[] #[.pointer (some ⟨gb290, 0, none⟩)]] rfl (by (try simp only [List.map_toArray, List.map_cons, List.map_nil]); first | done | rfl | (simp only [List.length_drop, List.length_take]; rfl)) ?_; (with_reducible refine (impl_jobsOk_1.calls _ _ l0_15 a0_13 a0_14 A0_15 c0_15 l0_15 false _ ?side1 ?side2 ?side3 ?side4 ?side5 A29.out).mono ?_); (case side1 => exact (by (with_reducible repeat first | apply bN | apply bd | apply ba); exact BK290.out)); (case side2 => repeat (first | exact (Kd.C_below HR0_15.out HB.out) | (with_reducible refine Kd.Ca ?_ _) | (with_reducible refine Kd.Cn ?_ _) | (with_reducible refine Kd.Cd ?_))); (case side3 => exact HC0_15.out); (case side4 => repeat (first | exact (Kd.C_below HR0_15.out HB.out) | (with_reducible refine Kd.Ca ?_ _) | (with_reducible refine Kd.Cn ?_ _) | (with_reducible refine Kd.Cd ?_))); (case side5 => exact HC0_15.out); rintro e w37 ⟨rfl, hb⟩; refine ⟨_, rfl, ?_⟩; have n0_ := Aside0.mk (bb (g := gb289) (by first | (with_reducible exact BK289.out) | (with_reducible exact bN BK289.out _) | (with_reducible exact bd BK289.out) | ((with_reducible repeat first | apply bN | apply bd | apply ba); exact BK289.out)) hb); have n1_ := Aside0.mk (bb (g := gb290) (by first | (with_reducible exact BK290.out) | (with_reducible exact bN BK290.out _) | (with_reducible exact bd BK290.out) | ((with_reducible repeat first | apply bN | apply bd | apply ba); exact BK290.out)) hb); have n2_ := Aside0.mk (below_step (by repeat (first | (with_reducible first | exact HB.out | apply wa | apply wN | apply wd | refine ws ?_ GE289.out | refine ws ?_ GE290.out) | exact HB.out)) hb); clear BK289; clear BK290; clear HB; have BK289 := n0_; have BK290 := n1_; have HB := n2_; clear n0_ n1_ n2_; (try clear hb); (try clear hb2); (try clear hk); (try clear hi); have hcz38_12 : w37.cell? ⟨gb289, 12, none⟩ = some (.bool true) := (bc BK289.out 12).trans rfl; have hcz38_13 : w37.cell? ⟨gb289, 13, none⟩ = some (.int .i64 a0_13) := (bc BK289.out 13).trans rfl; have hcz38_14 : w37.cell? ⟨gb289, 14, none⟩ = some (.int .i64 a0_14) := (bc BK289.out 14).trans rfl; have hcz38_15 : w37.cell? ⟨gb289, 15, none⟩ = some (.slice A0_15 l0_15.length c0_15) := (bc BK289.out 15).trans rfl; have hcz38_16 : w37.cell? ⟨gb289, 16, none⟩ = some (.slice A0_16 l0_16.length c0_16) := (bc BK289.out 16).trans rfl) | ((with_reducible refine gate_callee (f := 104) rfl ?_); refine goesL_ (some 67) rfl rfl Try.func104 (by kernel_rfl) rfl #[.agg #[.int .i64 a0_0, .int .i64 a0_1, .string a0_2, .int .i64 a0_3, .int .i64 a0_4, .int .i64 a0_5, .int .i64 a0_6, .slice A0_7 l0_7.length c0_7, .int .i64 a0_8, .int .i64 a0_9, .slice A0_10 l0_10.length c0_10, .int .i64 a0_11, .bool true, .int .i64 a0_13, .int .i64 a0_14, .slice A0_15 l0_15.length c0_15, .slice A0_16 l0_16.length c0_16, .slice A0_17 l0_17.length c0_17]] rfl (by (try simp only [List.map_toArray, List.map_cons, List.map_nil]); first | done | rfl | (simp only [List.length_drop, List.length_take]; rfl)) ?_; (with_reducible refine (impl_LayerOf.calls a0_0 a0_1 a0_2 a0_3 a0_4 a0_5 a0_6 _ _ l0_7 a0_8 a0_9 _ _ l0_10 a0_11 true a0_13 a0_14 _ _ l0_15 _ _ l0_16 _ _ l0_17 t292 _ ?side1 ?side2 ?side3 ?side4 ?side5 ?side6 ?side7 ?side8 ?side9 ?side10 A34.out).mono ?_); (case side1 => repeat (first | exact (Kd.C_below HR0_7.out HB.out) | (with_reducible refine Kd.Ca ?_ _) | (with_reducible refine Kd.Cn ?_ _) | (with_reducible refine Kd.Cd ?_))); (case side2 => exact HC0_7.out); (case side3 => repeat (first | exact (Kd.C_below HR0_10.out HB.out) | (with_reducible refine Kd.Ca ?_ _) | (with_reducible refine Kd.Cn ?_ _) | (with_reducible refine Kd.Cd ?_))); (case side4 => exact HC0_10.out); (case side5 => repeat (first | exact (Kd.C_below HR0_15.out HB.out) | (with_reducible refine Kd.Ca ?_ _) | (with_reducible refine Kd.Cn ?_ _) | (with_reducible refine Kd.Cd ?_))); (case side6 => exact HC0_15.out); (case side7 => repeat (first | exact (Kd.C_below HR0_16.out HB.out) | (with_reducible refine Kd.Ca ?_ _) | (with_reducible refine Kd.Cn ?_ _) | (with_reducible refine Kd.Cd ?_))); (case side8 => exact HC0_16.out); (case side9 => repeat (first | exact (Kd.C_below HR0_17.out HB.out) | (with_reducible refine Kd.Ca ?_ _) | (with_reducible refine Kd.Cn ?_ _) | (with_reducible refine Kd.Cd ?_))); (case side10 => exact HC0_17.out); rintro e w39 ⟨rfl, hb⟩; refine ⟨_, rfl, ?_⟩; have n0_ := Aside0.mk (bb (g := gb289) (by first | (with_reducible exact BK289.out) | (with_reducible exact bN BK289.out _) | (with_reducible exact bd BK289.out) | ((with_reducible repeat first | apply bN | apply bd | apply ba); exact BK289.out)) hb); have n1_ := Aside0.mk (bb (g := gb290) (by first | (with_reducible exact BK290.out) | (with_reducible exact bN BK290.out _) | (with_reducible exact bd BK290.out) | ((with_reducible repeat first | apply bN | apply bd | apply ba); exact BK290.out)) hb); have n2_ := Aside0.mk (below_step (by repeat (first | (with_reducible first | exact HB.out | apply wa | apply wN | apply wd | refine ws ?_ GE289.out | refine ws ?_ GE290.out) | exact HB.out)) hb); clear BK289; clear BK290; clear HB; have BK289 := n0_; have BK290 := n1_; have HB := n2_; clear n0_ n1_ n2_; (try clear hb); (try clear hb2); (try clear hk); (try clear hi); have hcz40_12 : w39.cell? ⟨gb289, 12, none⟩ = some (.bool true) := (bc BK289.out 12).trans rfl; have hcz40_13 : w39.cell? ⟨gb289, 13, none⟩ = some (.int .i64 a0_13) := (bc BK289.out 13).trans rfl; have hcz40_14 : w39.cell? ⟨gb289, 14, none⟩ = some (.int .i64 a0_14) := (bc BK289.out 14).trans rfl; have hcz40_15 : w39.cell? ⟨gb289, 15, none⟩ = some (.slice A0_15 l0_15.length c0_15) := (bc BK289.out 15).trans rfl; have hcz40_16 : w39.cell? ⟨gb289, 16, none⟩ = some (.slice A0_16 l0_16.length c0_16) := (bc BK289.out 16).trans rfl) | ((with_reducible refine gate_dst (N := 66) rfl ?_); refine wpList_load_row (P := Try.prog) rfl _ _ rfl gb289 ?hx _ _ _ _ (by (with_reducible repeat first | apply bN | apply bd | apply ba); with_reducible exact BK289.out) Try.underlying39 rfl (by kernel_rfl) ?_; (case hx => first | rfl | (go_simp; done))) | ((with_reducible refine gate_dst (N := 74) rfl ?_); refine wpList_load_row (P := Try.prog) rfl _ _ rfl gb289 ?hx _ _ _ _ (by (with_reducible repeat first | apply bN | apply bd | apply ba); with_reducible exact BK289.out) Try.underlying39 rfl (by kernel_rfl) ?_; (case hx => first | rfl | (go_simp; done))))
      go_loopg [71] kj3 (fun kq v71 w' => ∃ (x71_2 : Int), v71 = .int .i64 x71_2 ∧ Aside0 (impl_jobsOk.l0 kq a1 t292 (l0_16.length : Int) x71_2 a0_0 a0_1 a0_2 a0_3 a0_4 a0_5 a0_6 l0_7 a0_8 a0_9 l0_10 a0_11 true a0_13 a0_14 l0_15 l0_16 l0_17 a0_13 a0_14 l0_15 = some r) ∧ Aside0 (kq ≤ kj3) ∧ Aside0 (w'.heap[gb289]? = some (.cells #[.int .i64 a0_0, .int .i64 a0_1, .string a0_2, .int .i64 a0_3, .int .i64 a0_4, .int .i64 a0_5, .int .i64 a0_6, (.slice A0_7 l0_7.length c0_7), .int .i64 a0_8, .int .i64 a0_9, (.slice A0_10 l0_10.length c0_10), .int .i64 a0_11, .bool true, .int .i64 a0_13, .int .i64 a0_14, (.slice A0_15 l0_15.length c0_15), (.slice A0_16 l0_16.length c0_16), (.slice A0_17 l0_17.length c0_17)] 39 (0, 0))) ∧ Aside0 (w'.heap[gb290]? = some (.cells #[.int .i64 a0_13, .int .i64 a0_14, (.slice A0_15 l0_15.length c0_15)] 36 (0, 0))) ∧ Aside0 (Below w.heap.size w w'))
      case atStart => exact ⟨(0), (by first | rfl | (simp; done) | (simp [*]; done)), H', ⟨Nat.le_refl _⟩, ⟨by (with_reducible repeat first | apply bN | apply bd | apply ba); exact BK289.out⟩, ⟨by (with_reducible repeat first | apply bN | apply bd | apply ba); exact BK290.out⟩, ⟨by repeat (first | (with_reducible first | exact HB.out | apply wa | apply wN | apply wd | refine ws ?_ GE289.out | refine ws ?_ GE290.out) | exact HB.out)⟩⟩
      case round =>
        clear H'
        try clear c1
        try clear c2
        try clear p2
        try clear c3
        try clear c7
        try clear c8
        try clear c10
        try clear c11
        try clear c11b0
        try clear c12
        try clear c14
        try clear c14b0
        try clear c15
        try clear c17
        try clear c17b0
        try clear c17b1
        try clear c18
        try clear c21
        try clear c21b0
        try clear c21b1
        try clear c22
        try clear c25
        try clear c28
        try clear c30
        try clear c31
        try clear c35
        try clear hcz10_12
        try clear hcz10_13
        try clear hcz10_14
        try clear hcz10_15
        try clear hcz10_16
        try clear hcz13_0
        try clear hcz13_1
        try clear hcz13_2
        try clear hcz16_0
        try clear hcz16_1
        try clear hcz16_2
        try clear hcz19_0
        try clear hcz19_1
        try clear hcz19_2
        try clear hcz20_12
        try clear hcz20_13
        try clear hcz20_14
        try clear hcz20_15
        try clear hcz20_16
        try clear hcz23_0
        try clear hcz23_1
        try clear hcz23_2
        try clear hcz24_12
        try clear hcz24_13
        try clear hcz24_14
        try clear hcz24_15
        try clear hcz24_16
        try clear hcz26_0
        try clear hcz26_1
        try clear hcz26_2
        try clear hcz27_12
        try clear hcz27_13
        try clear hcz27_14
        try clear hcz27_15
        try clear hcz27_16
        try clear hcz32_0
        try clear hcz32_1
        try clear hcz32_2
        try clear hcz36_0
        try clear hcz36_1
        try clear hcz36_2
        try clear hcz38_12
        try clear hcz38_13
        try clear hcz38_14
        try clear hcz38_15
        try clear hcz38_16
        try clear hcz40_12
        try clear hcz40_13
        try clear hcz40_14
        try clear hcz40_15
        try clear hcz40_16
        try clear hcz6_12
        try clear hcz6_13
        try clear hcz6_14
        try clear hcz6_15
        try clear hcz6_16
        try clear hcz9_0
        try clear hcz9_1
        try clear hcz9_2
        try clear hfz13_0
        try clear hfz13_1
        try clear hfz13_2
        try clear hfz16_0
        try clear hfz16_1
        try clear hfz16_2
        try clear hfz19_0
        try clear hfz19_1
        try clear hfz19_2
        try clear hfz23_0
        try clear hfz23_1
        try clear hfz23_2
        try clear hfz26_0
        try clear hfz26_1
        try clear hfz26_2
        try clear hfz32_0
        try clear hfz32_1
        try clear hfz32_2
        try clear hfz36_0
        try clear hfz36_1
        try clear hfz36_2
        try clear hfz9_0
        try clear hfz9_1
        try clear hfz9_2
        try clear p2
        obtain ⟨x71_2, rfl, HA, HK2, BK289, BK290, HB⟩ := hrel
        cases gk with
        | zero => exact absurd HA.out (by simp [impl_jobsOk.l0])
        | succ k2 =>
          have H := HA.out
          clear HA
          simp only [impl_jobsOk.l0] at H
          by_cases c41 : x71_2 < (l0_16.length : Int)
          rotate_left
          · rw [if_neg c41] at H
            have c41b0 : decide (x71_2 < (l0_16.length : Int)) = false := decide_eq_false c41
            clear c41
            by_cases c50 : a1 = true
            · subst c50
              have H1 : (some true) = some r := by rw [if_pos rfl] at H; exact H
              clear H
              have H := H1
              clear H1
              obtain rfl := Option.some.inj H
              go_wp2_with (first | ((with_reducible refine gate_dst (N := 66) rfl ?_); refine wpList_load_row (P := Try.prog) rfl _ _ rfl gb289 ?hx _ _ _ _ (by (with_reducible repeat first | apply bN | apply bd | apply ba); with_reducible exact BK289.out) Try.underlying39 rfl (by kernel_rfl) ?_; (case hx => first | rfl | (go_simp; done))) | ((with_reducible refine gate_dst (N := 74) rfl ?_); refine wpList_load_row (P := Try.prog) rfl _ _ rfl gb289 ?hx _ _ _ _ (by (with_reducible repeat first | apply bN | apply bd | apply ba); with_reducible exact BK289.out) Try.underlying39 rfl (by kernel_rfl) ?_; (case hx => first | rfl | (go_simp; done))))
              go_ret
              exact ⟨by first | rfl | (simp [errW_none, errW_some] <;> rfl) | (simp [*, errW_none, errW_some] <;> rfl), by repeat (first | (with_reducible first | exact HB.out | apply wa | apply wN | apply wd | refine ws ?_ GE289.out | refine ws ?_ GE290.out) | exact HB.out)⟩
            replace c50 := Bool.eq_false_iff.mpr c50
            subst c50
            have H1 : (some (decide (t292 < a0_13))) = some r := by rw [if_neg (show ¬ (false = true) by decide)] at H; exact H
            clear H
            have H := H1
            clear H1
            obtain rfl := Option.some.inj H
            have hnb51 := NB290_289.out
            have hnc51 := NB289_290.out
            have hcz52_0 : wr.cell? ⟨gb290, 0, none⟩ = some (.int .i64 a0_13) := (bc BK290.out 0).trans rfl
            have hcz52_1 : wr.cell? ⟨gb290, 1, none⟩ = some (.int .i64 a0_14) := (bc BK290.out 1).trans rfl
            have hcz52_2 : wr.cell? ⟨gb290, 2, none⟩ = some (.slice A0_15 l0_15.length c0_15) := (bc BK290.out 2).trans rfl
            have hfz52_0 := bz BK290.out 0
            have hfz52_1 := bz BK290.out 1
            have hfz52_2 := bz BK290.out 2
            go_wp2_with (first | ((with_reducible refine gate_dst (N := 66) rfl ?_); refine wpList_load_row (P := Try.prog) rfl _ _ rfl gb289 ?hx _ _ _ _ (by (with_reducible repeat first | apply bN | apply bd | apply ba); with_reducible exact BK289.out) Try.underlying39 rfl (by kernel_rfl) ?_; (case hx => first | rfl | (go_simp; done))) | ((with_reducible refine gate_dst (N := 74) rfl ?_); refine wpList_load_row (P := Try.prog) rfl _ _ rfl gb289 ?hx _ _ _ _ (by (with_reducible repeat first | apply bN | apply bd | apply ba); with_reducible exact BK289.out) Try.underlying39 rfl (by kernel_rfl) ?_; (case hx => first | rfl | (go_simp; done))))
            go_ret
            exact ⟨by first | rfl | (simp [errW_none, errW_some] <;> rfl) | (simp [*, errW_none, errW_some] <;> rfl), by repeat (first | (with_reducible first | exact HB.out | apply wa | apply wN | apply wd | refine ws ?_ GE289.out | refine ws ?_ GE290.out) | exact HB.out)⟩
          rw [if_pos c41] at H
          have c41b0 : decide (x71_2 < (l0_16.length : Int)) = true := decide_eq_true c41
          clear c41
          replace H := Option.bind_eq_some_iff.mp H
          obtain ⟨t293, A420, H⟩ := H
          replace H : (if t293 = true then (impl_jobsOk.l0 k2 a1 t292 (l0_16.length : Int) (wrap64 (x71_2 + 1)) a0_0 a0_1 a0_2 a0_3 a0_4 a0_5 a0_6 l0_7 a0_8 a0_9 l0_10 a0_11 true a0_13 a0_14 l0_15 l0_16 l0_17 a0_13 a0_14 l0_15) else (some false)) = some r := H
          have A42 := Aside0.mk A420
          clear A420
          by_cases c43 : t293 = true
          rotate_left
          · replace c43 := Bool.eq_false_iff.mpr c43
            subst c43
            have H1 : (some false) = some r := by rw [if_neg (show ¬ (false = true) by decide)] at H; exact H
            clear H
            have H := H1
            clear H1
            obtain rfl := Option.some.inj H
            have hnb47 := NB289_290.out
            have hnc47 := NB290_289.out
            have hcz48_12 : wr.cell? ⟨gb289, 12, none⟩ = some (.bool true) := (bc BK289.out 12).trans rfl
            have hcz48_13 : wr.cell? ⟨gb289, 13, none⟩ = some (.int .i64 a0_13) := (bc BK289.out 13).trans rfl
            have hcz48_14 : wr.cell? ⟨gb289, 14, none⟩ = some (.int .i64 a0_14) := (bc BK289.out 14).trans rfl
            have hcz48_15 : wr.cell? ⟨gb289, 15, none⟩ = some (.slice A0_15 l0_15.length c0_15) := (bc BK289.out 15).trans rfl
            have hcz48_16 : wr.cell? ⟨gb289, 16, none⟩ = some (.slice A0_16 l0_16.length c0_16) := (bc BK289.out 16).trans rfl
            go_wp2_with (first | ((with_reducible refine gate_callee (f := 121) rfl ?_); refine goesL_ (some 77) rfl rfl Try.func121 (by kernel_rfl) rfl #[.agg #[.int .i64 a0_0, .int .i64 a0_1, .string a0_2, .int .i64 a0_3, .int .i64 a0_4, .int .i64 a0_5, .int .i64 a0_6, .slice A0_7 l0_7.length c0_7, .int .i64 a0_8, .int .i64 a0_9, .slice A0_10 l0_10.length c0_10, .int .i64 a0_11, .bool true, .int .i64 a0_13, .int .i64 a0_14, .slice A0_15 l0_15.length c0_15, .slice A0_16 l0_16.length c0_16, .slice A0_17 l0_17.length c0_17], .int .i64 x71_2, .int .i64 t292] rfl (by (try simp only [List.map_toArray, List.map_cons, List.map_nil]); first | done | rfl | (simp only [List.length_drop, List.length_take]; rfl)) ?_; (with_reducible refine (impl_isJob.calls k2 a0_0 a0_1 a0_2 a0_3 a0_4 a0_5 a0_6 _ _ l0_7 a0_8 a0_9 _ _ l0_10 a0_11 true a0_13 a0_14 _ _ l0_15 _ _ l0_16 _ _ l0_17 x71_2 t292 false _ ?side1 ?side2 ?side3 ?side4 ?side5 ?side6 ?side7 ?side8 ?side9 ?side10 A42.out).mono ?_); (case side1 => repeat (first | exact (Kd.C_below HR0_7.out HB.out) | (with_reducible refine Kd.Ca ?_ _) | (with_reducible refine Kd.Cn ?_ _) | (with_reducible refine Kd.Cd ?_))); (case side2 => exact HC0_7.out); (case side3 => repeat (first | exact (Kd.C_below HR0_10.out HB.out) | (with_reducible refine Kd.Ca ?_ _) | (with_reducible refine Kd.Cn ?_ _) | (with_reducible refine Kd.Cd ?_))); (case side4 => exact HC0_10.out); (case side5 => repeat (first | exact (Kd.C_below HR0_15.out HB.out) | (with_reducible refine Kd.Ca ?_ _) | (with_reducible refine Kd.Cn ?_ _) | (with_reducible refine Kd.Cd ?_))); (case side6 => exact HC0_15.out); (case side7 => repeat (first | exact (Kd.C_below HR0_16.out HB.out) | (with_reducible refine Kd.Ca ?_ _) | (with_reducible refine Kd.Cn ?_ _) | (with_reducible refine Kd.Cd ?_))); (case side8 => exact HC0_16.out); (case side9 => repeat (first | exact (Kd.C_below HR0_17.out HB.out) | (with_reducible refine Kd.Ca ?_ _) | (with_reducible refine Kd.Cn ?_ _) | (with_reducible refine Kd.Cd ?_))); (case side10 => exact HC0_17.out); rintro e w49 ⟨rfl, hb⟩; refine ⟨_, rfl, ?_⟩; have n0_ := Aside0.mk (bb (g := gb289) (by first | (with_reducible exact BK289.out) | (with_reducible exact bN BK289.out _) | (with_reducible exact bd BK289.out) | ((with_reducible repeat first | apply bN | apply bd | apply ba); exact BK289.out)) hb); have n1_ := Aside0.mk (bb (g := gb290) (by first | (with_reducible exact BK290.out) | (with_reducible exact bN BK290.out _) | (with_reducible exact bd BK290.out) | ((with_reducible repeat first | apply bN | apply bd | apply ba); exact BK290.out)) hb); have n2_ := Aside0.mk (below_step (by repeat (first | (with_reducible first | exact HB.out | apply wa | apply wN | apply wd | refine ws ?_ GE289.out | refine ws ?_ GE290.out) | exact HB.out)) hb); clear BK289; clear BK290; clear HB; have BK289 := n0_; have BK290 := n1_; have HB := n2_; clear n0_ n1_ n2_; (try clear hb); (try clear hb2); (try clear hk); (try clear hi)) | ((with_reducible refine gate_dst (N := 66) rfl ?_); refine wpList_load_row (P := Try.prog) rfl _ _ rfl gb289 ?hx _ _ _ _ (by (with_reducible repeat first | apply bN | apply bd | apply ba); with_reducible exact BK289.out) Try.underlying39 rfl (by kernel_rfl) ?_; (case hx => first | rfl | (go_simp; done))) | ((with_reducible refine gate_dst (N := 74) rfl ?_); refine wpList_load_row (P := Try.prog) rfl _ _ rfl gb289 ?hx _ _ _ _ (by (with_reducible repeat first | apply bN | apply bd | apply ba); with_reducible exact BK289.out) Try.underlying39 rfl (by kernel_rfl) ?_; (case hx => first | rfl | (go_simp; done))))
            go_ret
            exact ⟨by first | rfl | (simp [errW_none, errW_some] <;> rfl) | (simp [*, errW_none, errW_some] <;> rfl), by repeat (first | (with_reducible first | exact HB.out | apply wa | apply wN | apply wd | refine ws ?_ GE289.out | refine ws ?_ GE290.out) | exact HB.out)⟩
          subst c43
          have H1 : (impl_jobsOk.l0 k2 a1 t292 (l0_16.length : Int) (wrap64 (x71_2 + 1)) a0_0 a0_1 a0_2 a0_3 a0_4 a0_5 a0_6 l0_7 a0_8 a0_9 l0_10 a0_11 true a0_13 a0_14 l0_15 l0_16 l0_17 a0_13 a0_14 l0_15) = some r := by rw [if_pos rfl] at H; exact H
          clear H
          have H := H1
          clear H1
          have H' := Aside0.mk H
          clear H
          have hnb44 := NB289_290.out
          have hnc44 := NB290_289.out
          have hcz45_12 : wr.cell? ⟨gb289, 12, none⟩ = some (.bool true) := (bc BK289.out 12).trans rfl
          have hcz45_13 : wr.cell? ⟨gb289, 13, none⟩ = some (.int .i64 a0_13) := (bc BK289.out 13).trans rfl
          have hcz45_14 : wr.cell? ⟨gb289, 14, none⟩ = some (.int .i64 a0_14) := (bc BK289.out 14).trans rfl
          have hcz45_15 : wr.cell? ⟨gb289, 15, none⟩ = some (.slice A0_15 l0_15.length c0_15) := (bc BK289.out 15).trans rfl
          have hcz45_16 : wr.cell? ⟨gb289, 16, none⟩ = some (.slice A0_16 l0_16.length c0_16) := (bc BK289.out 16).trans rfl
          go_wp2_with (first | ((with_reducible refine gate_callee (f := 121) rfl ?_); refine goesL_ (some 77) rfl rfl Try.func121 (by kernel_rfl) rfl #[.agg #[.int .i64 a0_0, .int .i64 a0_1, .string a0_2, .int .i64 a0_3, .int .i64 a0_4, .int .i64 a0_5, .int .i64 a0_6, .slice A0_7 l0_7.length c0_7, .int .i64 a0_8, .int .i64 a0_9, .slice A0_10 l0_10.length c0_10, .int .i64 a0_11, .bool true, .int .i64 a0_13, .int .i64 a0_14, .slice A0_15 l0_15.length c0_15, .slice A0_16 l0_16.length c0_16, .slice A0_17 l0_17.length c0_17], .int .i64 x71_2, .int .i64 t292] rfl (by (try simp only [List.map_toArray, List.map_cons, List.map_nil]); first | done | rfl | (simp only [List.length_drop, List.length_take]; rfl)) ?_; (with_reducible refine (impl_isJob.calls k2 a0_0 a0_1 a0_2 a0_3 a0_4 a0_5 a0_6 _ _ l0_7 a0_8 a0_9 _ _ l0_10 a0_11 true a0_13 a0_14 _ _ l0_15 _ _ l0_16 _ _ l0_17 x71_2 t292 true _ ?side1 ?side2 ?side3 ?side4 ?side5 ?side6 ?side7 ?side8 ?side9 ?side10 A42.out).mono ?_); (case side1 => repeat (first | exact (Kd.C_below HR0_7.out HB.out) | (with_reducible refine Kd.Ca ?_ _) | (with_reducible refine Kd.Cn ?_ _) | (with_reducible refine Kd.Cd ?_))); (case side2 => exact HC0_7.out); (case side3 => repeat (first | exact (Kd.C_below HR0_10.out HB.out) | (with_reducible refine Kd.Ca ?_ _) | (with_reducible refine Kd.Cn ?_ _) | (with_reducible refine Kd.Cd ?_))); (case side4 => exact HC0_10.out); (case side5 => repeat (first | exact (Kd.C_below HR0_15.out HB.out) | (with_reducible refine Kd.Ca ?_ _) | (with_reducible refine Kd.Cn ?_ _) | (with_reducible refine Kd.Cd ?_))); (case side6 => exact HC0_15.out); (case side7 => repeat (first | exact (Kd.C_below HR0_16.out HB.out) | (with_reducible refine Kd.Ca ?_ _) | (with_reducible refine Kd.Cn ?_ _) | (with_reducible refine Kd.Cd ?_))); (case side8 => exact HC0_16.out); (case side9 => repeat (first | exact (Kd.C_below HR0_17.out HB.out) | (with_reducible refine Kd.Ca ?_ _) | (with_reducible refine Kd.Cn ?_ _) | (with_reducible refine Kd.Cd ?_))); (case side10 => exact HC0_17.out); rintro e w46 ⟨rfl, hb⟩; refine ⟨_, rfl, ?_⟩; have n0_ := Aside0.mk (bb (g := gb289) (by first | (with_reducible exact BK289.out) | (with_reducible exact bN BK289.out _) | (with_reducible exact bd BK289.out) | ((with_reducible repeat first | apply bN | apply bd | apply ba); exact BK289.out)) hb); have n1_ := Aside0.mk (bb (g := gb290) (by first | (with_reducible exact BK290.out) | (with_reducible exact bN BK290.out _) | (with_reducible exact bd BK290.out) | ((with_reducible repeat first | apply bN | apply bd | apply ba); exact BK290.out)) hb); have n2_ := Aside0.mk (below_step (by repeat (first | (with_reducible first | exact HB.out | apply wa | apply wN | apply wd | refine ws ?_ GE289.out | refine ws ?_ GE290.out) | exact HB.out)) hb); clear BK289; clear BK290; clear HB; have BK289 := n0_; have BK290 := n1_; have HB := n2_; clear n0_ n1_ n2_; (try clear hb); (try clear hb2); (try clear hk); (try clear hi)) | ((with_reducible refine gate_dst (N := 66) rfl ?_); refine wpList_load_row (P := Try.prog) rfl _ _ rfl gb289 ?hx _ _ _ _ (by (with_reducible repeat first | apply bN | apply bd | apply ba); with_reducible exact BK289.out) Try.underlying39 rfl (by kernel_rfl) ?_; (case hx => first | rfl | (go_simp; done))) | ((with_reducible refine gate_dst (N := 74) rfl ?_); refine wpList_load_row (P := Try.prog) rfl _ _ rfl gb289 ?hx _ _ _ _ (by (with_reducible repeat first | apply bN | apply bd | apply ba); with_reducible exact BK289.out) Try.underlying39 rfl (by kernel_rfl) ?_; (case hx => first | rfl | (go_simp; done))))
          go_roundg k2
          case measure => have := HJ3.out; have := HK2.out; omega
          case rel => exact ⟨(wrap64 (x71_2 + 1)), (by first | rfl | (simp; done) | (simp [*]; done)), H', ⟨by have := HJ3.out; have := HK2.out; omega⟩, ⟨by (with_reducible repeat first | apply bN | apply bd | apply ba); exact BK289.out⟩, ⟨by (with_reducible repeat first | apply bN | apply bd | apply ba); exact BK290.out⟩, ⟨by repeat (first | (with_reducible first | exact HB.out | apply wa | apply wN | apply wd | refine ws ?_ GE289.out | refine ws ?_ GE290.out) | exact HB.out)⟩⟩

end Go.Proofs.Ytfinjkjnoobbjaa.MFnExactJobsOk
