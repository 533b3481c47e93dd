/- Made by a program of this session (out of the kit's print, with hand-made contracts): what each Go function that the law reaches computes, and that the machine's call does so. -/
import Derived.Test.YtfinjkjnoobbjaaMFnExactSafeYardx0
import Derived.Test.YtfinjkjnoobbjaaMFnExactSafeYardx10
import Derived.Test.YtfinjkjnoobbjaaMFnExactSafeYardx14
namespace Go.Proofs.Ytfinjkjnoobbjaa.MFnExactSafeYard
open Go.RowKit Go.Proofs.YtfinjkjnoobbjaaW.PrintWords Go.Proofs.YtfinjkjnoobbjaaW.PrintLast Go.Proofs.YtfinjkjnoobbjaaW.PrintMore
attribute [local go_sem] max2_int min2_int max_two min_two max_three min_three max_four min_four   -- for this text's walks alone
set_option linter.unusedVariables false
set_option linter.unusedSimpArgs false

/-! ### spec_SafeYard: function 20 -/
mutual
def spec_SafeYard.l0 : Nat → Int → Int → Int → ByteArray → Int → Int → Int → Int → List (S84) → Int → Int → List Int → Int → Bool → Int → Int → List (S143) → List (S141) → List Int → Int → Int → ByteArray → Option (Bool)
  | 0, _, _, _, _, _, _, _, _, _, _, _, _, _, _, _, _, _, _, _, _, _, _ => none
  | k + 1, x4, x314000, x314001, x314002, x314003, x314004, x314005, x314006, x314007, x314008, x314009, x314010, x314011, x314012, x314013, x314014, x314015, x314016, x314017, x315000, x315001, x315002 => if x4 < (x314007.length : Int) then (if 0 ≤ x4 then ((spec_FreeAt.f k x315000 x315001 x315002 ((rd_T84 x314007 x4).f1)).bind fun t317 => (if t317 = true then (if ((rd_T84 x314007 x4).f2) = (-1) then (spec_SafeYard.j1 k x4 false x314000 x314001 x314002 x314003 x314004 x314005 x314006 x314007 x314008 x314009 x314010 x314011 x314012 x314013 x314014 x314015 x314016 x314017 x315000 x315001 x315002 ((rd_T84 x314007 x4).f0) ((rd_T84 x314007 x4).f1) ((rd_T84 x314007 x4).f2) ((rd_T84 x314007 x4).f3)) else ((spec_StepsTo.f k x315000 x315001 x315002 ((rd_T84 x314007 x4).f1) ((rd_T84 x314007 x4).f2)).bind fun t318 => (spec_SafeYard.j1 k x4 (t318 != 1) x314000 x314001 x314002 x314003 x314004 x314005 x314006 x314007 x314008 x314009 x314010 x314011 x314012 x314013 x314014 x314015 x314016 x314017 x315000 x315001 x315002 ((rd_T84 x314007 x4).f0) ((rd_T84 x314007 x4).f1) ((rd_T84 x314007 x4).f2) ((rd_T84 x314007 x4).f3)))) else (spec_SafeYard.j1 k x4 true x314000 x314001 x314002 x314003 x314004 x314005 x314006 x314007 x314008 x314009 x314010 x314011 x314012 x314013 x314014 x314015 x314016 x314017 x315000 x315001 x315002 ((rd_T84 x314007 x4).f0) ((rd_T84 x314007 x4).f1) ((rd_T84 x314007 x4).f2) ((rd_T84 x314007 x4).f3)))) else (none)) else (some true)
def spec_SafeYard.j1 : Nat → Int → Bool → Int → Int → ByteArray → Int → Int → Int → Int → List (S84) → Int → Int → List Int → Int → Bool → Int → Int → List (S143) → List (S141) → List Int → Int → Int → ByteArray → Int → Int → Int → Bool → Option (Bool)
  | 0, _, _, _, _, _, _, _, _, _, _, _, _, _, _, _, _, _, _, _, _, _, _, _, _, _, _, _ => none
  | k + 1, x4, x45, x314000, x314001, x314002, x314003, x314004, x314005, x314006, x314007, x314008, x314009, x314010, x314011, x314012, x314013, x314014, x314015, x314016, x314017, x315000, x315001, x315002, x317000, x317001, x317002, x317003 => if x45 = true then (some false) else (spec_SafeYard.l1 k x4 0 x314000 x314001 x314002 x314003 x314004 x314005 x314006 x314007 x314008 x314009 x314010 x314011 x314012 x314013 x314014 x314015 x314016 x314017 x315000 x315001 x315002 x317000 x317001 x317002 x317003)
def spec_SafeYard.l1 : Nat → Int → Int → Int → Int → ByteArray → Int → Int → Int → Int → List (S84) → Int → Int → List Int → Int → Bool → Int → Int → List (S143) → List (S141) → List Int → Int → Int → ByteArray → Int → Int → Int → Bool → Option (Bool)
  | 0, _, _, _, _, _, _, _, _, _, _, _, _, _, _, _, _, _, _, _, _, _, _, _, _, _, _, _ => none
  | k + 1, x4, x6, x314000, x314001, x314002, x314003, x314004, x314005, x314006, x314007, x314008, x314009, x314010, x314011, x314012, x314013, x314014, x314015, x314016, x314017, x315000, x315001, x315002, x317000, x317001, x317002, x317003 => if x6 < x4 then (if 0 ≤ x6 then (if x6 < (x314007.length : Int) then (if ((rd_T84 x314007 x6).f0) = x317000 then (some false) else (if ((rd_T84 x314007 x6).f1) = x317001 then (some false) else (if ((rd_T84 x314007 x6).f1) = x317002 then (some false) else (if ((rd_T84 x314007 x6).f2) = x317001 then (some false) else (if ((rd_T84 x314007 x6).f2) ≥ 0 then (if ((rd_T84 x314007 x6).f2) = x317002 then (some false) else (spec_SafeYard.l1 k x4 (wrap64 (x6 + 1)) x314000 x314001 x314002 x314003 x314004 x314005 x314006 x314007 x314008 x314009 x314010 x314011 x314012 x314013 x314014 x314015 x314016 x314017 x315000 x315001 x315002 x317000 x317001 x317002 x317003)) else (spec_SafeYard.l1 k x4 (wrap64 (x6 + 1)) x314000 x314001 x314002 x314003 x314004 x314005 x314006 x314007 x314008 x314009 x314010 x314011 x314012 x314013 x314014 x314015 x314016 x314017 x315000 x315001 x315002 x317000 x317001 x317002 x317003)))))) else (none)) else (none)) else (spec_SafeYard.l0 k (wrap64 (x4 + 1)) x314000 x314001 x314002 x314003 x314004 x314005 x314006 x314007 x314008 x314009 x314010 x314011 x314012 x314013 x314014 x314015 x314016 x314017 x315000 x315001 x315002)
end
def spec_SafeYard.f (k : Nat) (a0_0 : Int) (a0_1 : Int) (a0_2 : ByteArray) (a0_3 : Int) (a0_4 : Int) (a0_5 : Int) (a0_6 : Int) (l0_7 : List (S84)) (a0_8 : Int) (a0_9 : Int) (l0_10 : List Int) (a0_11 : Int) (a0_12 : Bool) (a0_13 : Int) (a0_14 : Int) (l0_15 : List (S143)) (l0_16 : List (S141)) (l0_17 : List Int) : Option (Bool) := if (l0_7.length : Int) > 1000 then (some false) else (spec_SafeYard.l0 k 0 a0_0 a0_1 a0_2 a0_3 a0_4 a0_5 a0_6 l0_7 a0_8 a0_9 l0_10 a0_11 a0_12 a0_13 a0_14 l0_15 l0_16 l0_17 a0_0 a0_1 a0_2)
theorem spec_SafeYard.mono_l : ∀ k, (∀ y0 y1 y2 y3 y4 y5 y6 y7 y8 y9 y10 y11 y12 y13 y14 y15 y16 y17 y18 y19 y20 y21, LeO (spec_SafeYard.l0 k y0 y1 y2 y3 y4 y5 y6 y7 y8 y9 y10 y11 y12 y13 y14 y15 y16 y17 y18 y19 y20 y21) (spec_SafeYard.l0 (k + 1) y0 y1 y2 y3 y4 y5 y6 y7 y8 y9 y10 y11 y12 y13 y14 y15 y16 y17 y18 y19 y20 y21)) ∧ (∀ y0 y1 y2 y3 y4 y5 y6 y7 y8 y9 y10 y11 y12 y13 y14 y15 y16 y17 y18 y19 y20 y21 y22 y23 y24 y25 y26, LeO (spec_SafeYard.j1 k y0 y1 y2 y3 y4 y5 y6 y7 y8 y9 y10 y11 y12 y13 y14 y15 y16 y17 y18 y19 y20 y21 y22 y23 y24 y25 y26) (spec_SafeYard.j1 (k + 1) y0 y1 y2 y3 y4 y5 y6 y7 y8 y9 y10 y11 y12 y13 y14 y15 y16 y17 y18 y19 y20 y21 y22 y23 y24 y25 y26)) ∧ (∀ y0 y1 y2 y3 y4 y5 y6 y7 y8 y9 y10 y11 y12 y13 y14 y15 y16 y17 y18 y19 y20 y21 y22 y23 y24 y25 y26, LeO (spec_SafeYard.l1 k y0 y1 y2 y3 y4 y5 y6 y7 y8 y9 y10 y11 y12 y13 y14 y15 y16 y17 y18 y19 y20 y21 y22 y23 y24 y25 y26) (spec_SafeYard.l1 (k + 1) y0 y1 y2 y3 y4 y5 y6 y7 y8 y9 y10 y11 y12 y13 y14 y15 y16 y17 y18 y19 y20 y21 y22 y23 y24 y25 y26))
  | 0 => ⟨fun _ _ _ _ _ _ _ _ _ _ _ _ _ _ _ _ _ _ _ _ _ _ r h => by simp [spec_SafeYard.l0] at h, fun _ _ _ _ _ _ _ _ _ _ _ _ _ _ _ _ _ _ _ _ _ _ _ _ _ _ _ r h => by simp [spec_SafeYard.j1] at h, fun _ _ _ _ _ _ _ _ _ _ _ _ _ _ _ _ _ _ _ _ _ _ _ _ _ _ _ r h => by simp [spec_SafeYard.l1] at h⟩
  | k + 1 => by
    obtain ⟨ih0, ih1, ih2⟩ := spec_SafeYard.mono_l k
    refine ⟨?_, ?_, ?_⟩
    · intro y0 y1 y2 y3 y4 y5 y6 y7 y8 y9 y10 y11 y12 y13 y14 y15 y16 y17 y18 y19 y20 y21
      unfold spec_SafeYard.l0
      repeat' first
      | (with_reducible exact ih0 _ _ _ _ _ _ _ _ _ _ _ _ _ _ _ _ _ _ _ _ _ _)
      | (with_reducible exact ih1 _ _ _ _ _ _ _ _ _ _ _ _ _ _ _ _ _ _ _ _ _ _ _ _ _ _ _)
      | (with_reducible exact ih2 _ _ _ _ _ _ _ _ _ _ _ _ _ _ _ _ _ _ _ _ _ _ _ _ _ _ _)
      | (with_reducible exact spec_FreeAt.mono _ _ _ _ _)
      | (with_reducible exact spec_StepsTo.mono _ _ _ _ _ _)
      | (with_reducible exact LeO.refl _)
      | (with_reducible exact LeO.none _)
      | (with_reducible refine LeO.ite ?_ ?_)
      | (with_reducible refine LeO.bind ?_ (fun _ => ?_))
      | exact ih0 _ _ _ _ _ _ _ _ _ _ _ _ _ _ _ _ _ _ _ _ _ _
      | exact ih1 _ _ _ _ _ _ _ _ _ _ _ _ _ _ _ _ _ _ _ _ _ _ _ _ _ _ _
      | exact ih2 _ _ _ _ _ _ _ _ _ _ _ _ _ _ _ _ _ _ _ _ _ _ _ _ _ _ _
      | exact spec_FreeAt.mono _ _ _ _ _
      | exact spec_StepsTo.mono _ _ _ _ _ _
      | exact LeO.none _
      | refine LeO.ite ?_ ?_
      | refine LeO.bind ?_ (fun _ => ?_)
    · intro y0 y1 y2 y3 y4 y5 y6 y7 y8 y9 y10 y11 y12 y13 y14 y15 y16 y17 y18 y19 y20 y21 y22 y23 y24 y25 y26
      unfold spec_SafeYard.j1
      repeat' first
      | (with_reducible exact ih0 _ _ _ _ _ _ _ _ _ _ _ _ _ _ _ _ _ _ _ _ _ _)
      | (with_reducible exact ih1 _ _ _ _ _ _ _ _ _ _ _ _ _ _ _ _ _ _ _ _ _ _ _ _ _ _ _)
      | (with_reducible exact ih2 _ _ _ _ _ _ _ _ _ _ _ _ _ _ _ _ _ _ _ _ _ _ _ _ _ _ _)
      | (with_reducible exact spec_FreeAt.mono _ _ _ _ _)
      | (with_reducible exact spec_StepsTo.mono _ _ _ _ _ _)
      | (with_reducible exact LeO.refl _)
      | (with_reducible exact LeO.none _)
      | (with_reducible refine LeO.ite ?_ ?_)
      | (with_reducible refine LeO.bind ?_ (fun _ => ?_))
      | exact ih0 _ _ _ _ _ _ _ _ _ _ _ _ _ _ _ _ _ _ _ _ _ _
      | exact ih1 _ _ _ _ _ _ _ _ _ _ _ _ _ _ _ _ _ _ _ _ _ _ _ _ _ _ _
      | exact ih2 _ _ _ _ _ _ _ _ _ _ _ _ _ _ _ _ _ _ _ _ _ _ _ _ _ _ _
      | exact spec_FreeAt.mono _ _ _ _ _
      | exact spec_StepsTo.mono _ _ _ _ _ _
      | exact LeO.none _
      | refine LeO.ite ?_ ?_
      | refine LeO.bind ?_ (fun _ => ?_)
    · intro y0 y1 y2 y3 y4 y5 y6 y7 y8 y9 y10 y11 y12 y13 y14 y15 y16 y17 y18 y19 y20 y21 y22 y23 y24 y25 y26
      unfold spec_SafeYard.l1
      repeat' first
      | (with_reducible exact ih0 _ _ _ _ _ _ _ _ _ _ _ _ _ _ _ _ _ _ _ _ _ _)
      | (with_reducible exact ih1 _ _ _ _ _ _ _ _ _ _ _ _ _ _ _ _ _ _ _ _ _ _ _ _ _ _ _)
      | (with_reducible exact ih2 _ _ _ _ _ _ _ _ _ _ _ _ _ _ _ _ _ _ _ _ _ _ _ _ _ _ _)
      | (with_reducible exact spec_FreeAt.mono _ _ _ _ _)
      | (with_reducible exact spec_StepsTo.mono _ _ _ _ _ _)
      | (with_reducible exact LeO.refl _)
      | (with_reducible exact LeO.none _)
      | (with_reducible refine LeO.ite ?_ ?_)
      | (with_reducible refine LeO.bind ?_ (fun _ => ?_))
      | exact ih0 _ _ _ _ _ _ _ _ _ _ _ _ _ _ _ _ _ _ _ _ _ _
      | exact ih1 _ _ _ _ _ _ _ _ _ _ _ _ _ _ _ _ _ _ _ _ _ _ _ _ _ _ _
      | exact ih2 _ _ _ _ _ _ _ _ _ _ _ _ _ _ _ _ _ _ _ _ _ _ _ _ _ _ _
      | exact spec_FreeAt.mono _ _ _ _ _
      | exact spec_StepsTo.mono _ _ _ _ _ _
      | exact LeO.none _
      | refine LeO.ite ?_ ?_
      | refine LeO.bind ?_ (fun _ => ?_)
theorem spec_SafeYard.mono : ∀ a0 a1 a2 a3 a4 a5 a6 a7 a8 a9 a10 a11 a12 a13 a14 a15 a16 a17 k, LeO (spec_SafeYard.f k a0 a1 a2 a3 a4 a5 a6 a7 a8 a9 a10 a11 a12 a13 a14 a15 a16 a17) (spec_SafeYard.f (k + 1) a0 a1 a2 a3 a4 a5 a6 a7 a8 a9 a10 a11 a12 a13 a14 a15 a16 a17) := by
  intro a0 a1 a2 a3 a4 a5 a6 a7 a8 a9 a10 a11 a12 a13 a14 a15 a16 a17 k
  obtain ⟨ih0, ih1, ih2⟩ := spec_SafeYard.mono_l k
  unfold spec_SafeYard.f
  repeat' first
      | (with_reducible exact ih0 _ _ _ _ _ _ _ _ _ _ _ _ _ _ _ _ _ _ _ _ _ _)
      | (with_reducible exact ih1 _ _ _ _ _ _ _ _ _ _ _ _ _ _ _ _ _ _ _ _ _ _ _ _ _ _ _)
      | (with_reducible exact ih2 _ _ _ _ _ _ _ _ _ _ _ _ _ _ _ _ _ _ _ _ _ _ _ _ _ _ _)
      | (with_reducible exact spec_FreeAt.mono _ _ _ _ _)
      | (with_reducible exact spec_StepsTo.mono _ _ _ _ _ _)
      | (with_reducible exact LeO.refl _)
      | (with_reducible exact LeO.none _)
      | (with_reducible refine LeO.ite ?_ ?_)
      | (with_reducible refine LeO.bind ?_ (fun _ => ?_))
      | exact ih0 _ _ _ _ _ _ _ _ _ _ _ _ _ _ _ _ _ _ _ _ _ _
      | exact ih1 _ _ _ _ _ _ _ _ _ _ _ _ _ _ _ _ _ _ _ _ _ _ _ _ _ _ _
      | exact ih2 _ _ _ _ _ _ _ _ _ _ _ _ _ _ _ _ _ _ _ _ _ _ _ _ _ _ _
      | exact spec_FreeAt.mono _ _ _ _ _
      | exact spec_StepsTo.mono _ _ _ _ _ _
      | exact LeO.none _
      | refine LeO.ite ?_ ?_
      | refine LeO.bind ?_ (fun _ => ?_)
set_option maxHeartbeats 8000000 in
set_option maxRecDepth 100000 in
theorem spec_SafeYard.calls (k : Nat) (a0_0 : Int) (a0_1 : Int) (a0_2 : ByteArray) (a0_3 : Int) (a0_4 : Int) (a0_5 : Int) (a0_6 : Int) (A0_7 : Option Addr) (c0_7 : Nat) (l0_7 : List (S84)) (a0_8 : Int) (a0_9 : Int) (A0_10 : Option Addr) (c0_10 : Nat) (l0_10 : List Int) (a0_11 : Int) (a0_12 : Bool) (a0_13 : Int) (a0_14 : Int) (A0_15 : Option Addr) (c0_15 : Nat) (l0_15 : List (S143)) (A0_16 : Option Addr) (c0_16 : Nat) (l0_16 : List (S141)) (A0_17 : Option Addr) (c0_17 : Nat) (l0_17 : List Int) (r : Bool) (w : World) (hr0_7 : Kd.C k84 w A0_7 l0_7.length l0_7) (hc0_7 : l0_7.length ≤ c0_7) (hr0_10 : Kd.C (Kd.int .i64) w A0_10 l0_10.length l0_10) (hc0_10 : l0_10.length ≤ c0_10) (hr0_15 : Kd.C k143 w A0_15 l0_15.length l0_15) (hc0_15 : l0_15.length ≤ c0_15) (hr0_16 : Kd.C k141 w A0_16 l0_16.length l0_16) (hc0_16 : l0_16.length ≤ c0_16) (hr0_17 : Kd.C (Kd.int .i64) w A0_17 l0_17.length l0_17) (hc0_17 : l0_17.length ≤ c0_17) (h : spec_SafeYard.f k a0_0 a0_1 a0_2 a0_3 a0_4 a0_5 a0_6 l0_7 a0_8 a0_9 l0_10 a0_11 a0_12 a0_13 a0_14 l0_15 l0_16 l0_17 = some r) :
    Calls Try.prog 20 #[.agg #[.int .i64 a0_0, .int .i64 a0_1, .string a0_2, .int .i64 a0_3, .int .i64 a0_4, .int .i64 a0_5, .int .i64 a0_6, .slice A0_7 l0_7.length c0_7, .int .i64 a0_8, .int .i64 a0_9, .slice A0_10 l0_10.length c0_10, .int .i64 a0_11, .bool a0_12, .int .i64 a0_13, .int .i64 a0_14, .slice A0_15 l0_15.length c0_15, .slice A0_16 l0_16.length c0_16, .slice A0_17 l0_17.length c0_17]] w fun e w' => e = .returned (.bool r) ∧ Below w.heap.size w w' := by
  have hu39 := Try.underlying39
  have hu27 := Try.underlying27
  have hu84 := Try.underlying84
  have HR0_7 := Aside0.mk hr0_7
  have HC0_7 := Aside0.mk hc0_7
  clear hr0_7 hc0_7
  have HR0_10 := Aside0.mk hr0_10
  have HC0_10 := Aside0.mk hc0_10
  clear hr0_10 hc0_10
  have HR0_15 := Aside0.mk hr0_15
  have HC0_15 := Aside0.mk hc0_15
  clear hr0_15 hc0_15
  have HR0_16 := Aside0.mk hr0_16
  have HC0_16 := Aside0.mk hc0_16
  clear hr0_16 hc0_16
  have HR0_17 := Aside0.mk hr0_17
  have HC0_17 := Aside0.mk hc0_17
  clear hr0_17 hc0_17
  have HB := Aside0.mk (Below.refl w.heap.size w)
  have H : (if (l0_7.length : Int) > 1000 then (some false) else (spec_SafeYard.l0 k 0 a0_0 a0_1 a0_2 a0_3 a0_4 a0_5 a0_6 l0_7 a0_8 a0_9 l0_10 a0_11 a0_12 a0_13 a0_14 l0_15 l0_16 l0_17 a0_0 a0_1 a0_2)) = some r := h
  clear h
  by_cases c2 : (l0_7.length : Int) > 1000
  · rw [if_pos c2] at H
    have c2b0 : decide (1000 < (l0_7.length : Int)) = true := decide_eq_true c2
    have c2b1 : decide (1000 < l0_7.length) = true := decide_eq_true (by omega)
    clear c2
    obtain rfl := Option.some.inj H
    go_enter Try.func20, Try.ntmps20
    go_wp2_with (first | ((with_reducible refine gate_dst (N := 1) rfl ?_); refine box_event ?hg (N := 1) ?hd (cs := #[.int .i64 a0_0, .int .i64 a0_1, .string a0_2, .int .i64 a0_3, .int .i64 a0_4, .int .i64 a0_5, .int .i64 a0_6, .slice A0_7 l0_7.length c0_7, .int .i64 a0_8, .int .i64 a0_9, .slice A0_10 l0_10.length c0_10, .int .i64 a0_11, .bool a0_12, .int .i64 a0_13, .int .i64 a0_14, .slice A0_15 l0_15.length c0_15, .slice A0_16 l0_16.length c0_16, .slice A0_17 l0_17.length c0_17]) (t := 39) ?hr ?_; (case hd => rfl); (case hg => rfl); (case hr => first | (go_simp; done) | (go_simp; rfl)); intro gb313 hg w3 hbox hb; have n0_ := Aside0.mk (below_step (by repeat (first | (with_reducible first | exact HB.out | apply wa | apply wN | apply wd) | exact HB.out)) hb); have n1_ := Aside0.mk (hbox); have n2_ := Aside0.mk ((by rw [hg]; exact (below_size (by repeat (first | (with_reducible first | exact HB.out | apply wa | apply wN | apply wd) | exact HB.out))) : w.heap.size ≤ gb313)); have n3_ := n2_; clear HB; have HB := n0_; have BK313 := n1_; have GW313 := n2_; have GE313 := n3_; clear n0_ n1_ n2_ n3_; clear hb hbox hg; have hcz4_0 : w3.cell? ⟨gb313, 0, none⟩ = some (.int .i64 a0_0) := (bc BK313.out 0).trans rfl; have hcz4_1 : w3.cell? ⟨gb313, 1, none⟩ = some (.int .i64 a0_1) := (bc BK313.out 1).trans rfl; have hcz4_2 : w3.cell? ⟨gb313, 2, none⟩ = some (.string a0_2) := (bc BK313.out 2).trans rfl; have hcz4_7 : w3.cell? ⟨gb313, 7, none⟩ = some (.slice A0_7 l0_7.length c0_7) := (bc BK313.out 7).trans rfl) | ((with_reducible refine gate_dst (N := 3) rfl ?_); refine box_event ?hg (N := 3) ?hd (cs := #[.int .i64 0, .int .i64 0, .string (⟨#[]⟩ : ByteArray)]) (t := 27) ?hr ?_; (case hd => rfl); (case hg => rfl); (case hr => first | (go_simp; done) | (go_simp; rfl)); intro gb314 hg w5 hbox hb; have n0_ := Aside0.mk (bb (g := gb313) (by first | (with_reducible exact BK313.out) | (with_reducible exact bN BK313.out _) | (with_reducible exact bd BK313.out) | ((with_reducible repeat first | apply bN | apply bd | apply ba); exact BK313.out)) hb); have n1_ := Aside0.mk (below_step (by repeat (first | (with_reducible first | exact HB.out | apply wa | apply wN | apply wd | refine ws ?_ GE313.out) | exact HB.out)) hb); have n2_ := Aside0.mk (hbox); have n3_ := Aside0.mk ((by rw [hg]; exact (below_size (by repeat (first | (with_reducible first | exact HB.out | apply wa | apply wN | apply wd | refine ws ?_ GE313.out) | exact HB.out))) : w.heap.size ≤ gb314)); have n4_ := n3_; have n5_ := Aside0.mk ((by rw [hg]; exact Nat.ne_of_lt (blk_lt (g := gb313) (by (with_reducible repeat first | apply bN | apply bd | apply ba); exact BK313.out)) : gb313 ≠ gb314)); have n6_ := Aside0.mk ((by rw [hg]; exact Nat.ne_of_gt (blk_lt (g := gb313) (by (with_reducible repeat first | apply bN | apply bd | apply ba); exact BK313.out)) : gb314 ≠ gb313)); clear BK313; clear HB; have BK313 := n0_; have HB := n1_; have BK314 := n2_; have GW314 := n3_; have GE314 := n4_; have NB313_314 := n5_; have NB314_313 := n6_; clear n0_ n1_ n2_ n3_ n4_ n5_ n6_; clear hb hbox hg; have hnb6 := NB314_313.out; have hnc6 := NB313_314.out; have hcz7_0 : w5.cell? ⟨gb314, 0, none⟩ = some (.int .i64 0) := (bc BK314.out 0).trans rfl; have hcz7_1 : w5.cell? ⟨gb314, 1, none⟩ = some (.int .i64 0) := (bc BK314.out 1).trans rfl; have hcz7_2 : w5.cell? ⟨gb314, 2, none⟩ = some (.string (⟨#[]⟩ : ByteArray)) := (bc BK314.out 2).trans rfl; have hfz7_0 := bz BK314.out 0; have hfz7_1 := bz BK314.out 1; have hfz7_2 := bz BK314.out 2; have hcz8_0 : w5.cell? ⟨gb313, 0, none⟩ = some (.int .i64 a0_0) := (bc BK313.out 0).trans rfl; have hcz8_1 : w5.cell? ⟨gb313, 1, none⟩ = some (.int .i64 a0_1) := (bc BK313.out 1).trans rfl; have hcz8_2 : w5.cell? ⟨gb313, 2, none⟩ = some (.string a0_2) := (bc BK313.out 2).trans rfl; have hcz8_7 : w5.cell? ⟨gb313, 7, none⟩ = some (.slice A0_7 l0_7.length c0_7) := (bc BK313.out 7).trans rfl))
    go_ret
    exact ⟨by first | rfl | (simp [errW_none, errW_some] <;> rfl) | (simp [*, errW_none, errW_some] <;> rfl), by repeat (first | (with_reducible first | exact HB.out | apply wa | apply wN | apply wd | refine ws ?_ GE313.out | refine ws ?_ GE314.out) | exact HB.out)⟩
  rw [if_neg c2] at H
  have c2b0 : decide (1000 < (l0_7.length : Int)) = false := decide_eq_false c2
  have c2b1 : decide (1000 < l0_7.length) = false := decide_eq_false (by omega)
  clear c2
  have H' := Aside0.mk H
  clear H
  go_enter Try.func20, Try.ntmps20
  go_wp2_with (first | ((with_reducible refine gate_dst (N := 1) rfl ?_); refine box_event ?hg (N := 1) ?hd (cs := #[.int .i64 a0_0, .int .i64 a0_1, .string a0_2, .int .i64 a0_3, .int .i64 a0_4, .int .i64 a0_5, .int .i64 a0_6, .slice A0_7 l0_7.length c0_7, .int .i64 a0_8, .int .i64 a0_9, .slice A0_10 l0_10.length c0_10, .int .i64 a0_11, .bool a0_12, .int .i64 a0_13, .int .i64 a0_14, .slice A0_15 l0_15.length c0_15, .slice A0_16 l0_16.length c0_16, .slice A0_17 l0_17.length c0_17]) (t := 39) ?hr ?_; (case hd => rfl); (case hg => rfl); (case hr => first | (go_simp; done) | (go_simp; rfl)); intro gb313 hg w9 hbox hb; have n0_ := Aside0.mk (below_step (by repeat (first | (with_reducible first | exact HB.out | apply wa | apply wN | apply wd) | exact HB.out)) hb); have n1_ := Aside0.mk (hbox); have n2_ := Aside0.mk ((by rw [hg]; exact (below_size (by repeat (first | (with_reducible first | exact HB.out | apply wa | apply wN | apply wd) | exact HB.out))) : w.heap.size ≤ gb313)); have n3_ := n2_; clear HB; have HB := n0_; have BK313 := n1_; have GW313 := n2_; have GE313 := n3_; clear n0_ n1_ n2_ n3_; clear hb hbox hg; have hcz10_0 : w9.cell? ⟨gb313, 0, none⟩ = some (.int .i64 a0_0) := (bc BK313.out 0).trans rfl; have hcz10_1 : w9.cell? ⟨gb313, 1, none⟩ = some (.int .i64 a0_1) := (bc BK313.out 1).trans rfl; have hcz10_2 : w9.cell? ⟨gb313, 2, none⟩ = some (.string a0_2) := (bc BK313.out 2).trans rfl; have hcz10_7 : w9.cell? ⟨gb313, 7, none⟩ = some (.slice A0_7 l0_7.length c0_7) := (bc BK313.out 7).trans rfl) | ((with_reducible refine gate_dst (N := 3) rfl ?_); refine box_event ?hg (N := 3) ?hd (cs := #[.int .i64 0, .int .i64 0, .string (⟨#[]⟩ : ByteArray)]) (t := 27) ?hr ?_; (case hd => rfl); (case hg => rfl); (case hr => first | (go_simp; done) | (go_simp; rfl)); intro gb314 hg w11 hbox hb; have n0_ := Aside0.mk (bb (g := gb313) (by first | (with_reducible exact BK313.out) | (with_reducible exact bN BK313.out _) | (with_reducible exact bd BK313.out) | ((with_reducible repeat first | apply bN | apply bd | apply ba); exact BK313.out)) hb); have n1_ := Aside0.mk (below_step (by repeat (first | (with_reducible first | exact HB.out | apply wa | apply wN | apply wd | refine ws ?_ GE313.out) | exact HB.out)) hb); have n2_ := Aside0.mk (hbox); have n3_ := Aside0.mk ((by rw [hg]; exact (below_size (by repeat (first | (with_reducible first | exact HB.out | apply wa | apply wN | apply wd | refine ws ?_ GE313.out) | exact HB.out))) : w.heap.size ≤ gb314)); have n4_ := n3_; have n5_ := Aside0.mk ((by rw [hg]; exact Nat.ne_of_lt (blk_lt (g := gb313) (by (with_reducible repeat first | apply bN | apply bd | apply ba); exact BK313.out)) : gb313 ≠ gb314)); have n6_ := Aside0.mk ((by rw [hg]; exact Nat.ne_of_gt (blk_lt (g := gb313) (by (with_reducible repeat first | apply bN | apply bd | apply ba); exact BK313.out)) : gb314 ≠ gb313)); clear BK313; clear HB; have BK313 := n0_; have HB := n1_; have BK314 := n2_; have GW314 := n3_; have GE314 := n4_; have NB313_314 := n5_; have NB314_313 := n6_; clear n0_ n1_ n2_ n3_ n4_ n5_ n6_; clear hb hbox hg; have hnb12 := NB314_313.out; have hnc12 := NB313_314.out; have hcz13_0 : w11.cell? ⟨gb314, 0, none⟩ = some (.int .i64 0) := (bc BK314.out 0).trans rfl; have hcz13_1 : w11.cell? ⟨gb314, 1, none⟩ = some (.int .i64 0) := (bc BK314.out 1).trans rfl; have hcz13_2 : w11.cell? ⟨gb314, 2, none⟩ = some (.string (⟨#[]⟩ : ByteArray)) := (bc BK314.out 2).trans rfl; have hfz13_0 := bz BK314.out 0; have hfz13_1 := bz BK314.out 1; have hfz13_2 := bz BK314.out 2; have hcz14_0 : w11.cell? ⟨gb313, 0, none⟩ = some (.int .i64 a0_0) := (bc BK313.out 0).trans rfl; have hcz14_1 : w11.cell? ⟨gb313, 1, none⟩ = some (.int .i64 a0_1) := (bc BK313.out 1).trans rfl; have hcz14_2 : w11.cell? ⟨gb313, 2, none⟩ = some (.string a0_2) := (bc BK313.out 2).trans rfl; have hcz14_7 : w11.cell? ⟨gb313, 7, none⟩ = some (.slice A0_7 l0_7.length c0_7) := (bc BK313.out 7).trans rfl))
  go_loopg [4] k (fun kq v4 w' => ∃ (x4_1 : Int), v4 = .int .i64 x4_1 ∧ Aside0 (spec_SafeYard.l0 kq x4_1 a0_0 a0_1 a0_2 a0_3 a0_4 a0_5 a0_6 l0_7 a0_8 a0_9 l0_10 a0_11 a0_12 a0_13 a0_14 l0_15 l0_16 l0_17 a0_0 a0_1 a0_2 = some r) ∧ Aside0 (kq ≤ k) ∧ Aside0 (w'.heap[gb313]? = some (.cells #[.int .i64 a0_0, .int .i64 a0_1, .string a0_2, .int .i64 a0_3, .int .i64 a0_4, .int .i64 a0_5, .int .i64 a0_6, (.slice A0_7 l0_7.length c0_7), .int .i64 a0_8, .int .i64 a0_9, (.slice A0_10 l0_10.length c0_10), .int .i64 a0_11, .bool a0_12, .int .i64 a0_13, .int .i64 a0_14, (.slice A0_15 l0_15.length c0_15), (.slice A0_16 l0_16.length c0_16), (.slice A0_17 l0_17.length c0_17)] 39 (0, 0))) ∧ Aside0 (w'.heap[gb314]? = some (.cells #[.int .i64 a0_0, .int .i64 a0_1, .string a0_2] 27 (0, 0))) ∧ Aside0 (Below w.heap.size w w'))
  case atStart => exact ⟨(0), (by first | rfl | (simp; done) | (simp [*]; done)), H', ⟨Nat.le_refl _⟩, ⟨by (with_reducible repeat first | apply bN | apply bd | apply ba); refine blk_far ?_ NB313_314.out _; (with_reducible repeat first | apply bN | apply bd | apply ba); refine blk_far ?_ NB313_314.out _; (with_reducible repeat first | apply bN | apply bd | apply ba); refine blk_far ?_ NB313_314.out _; (with_reducible repeat first | apply bN | apply bd | apply ba); exact BK313.out⟩, ⟨by (with_reducible repeat first | apply bN | apply bd | apply ba); refine blk_put (cs := #[.int .i64 a0_0, .int .i64 a0_1, .string (⟨#[]⟩ : ByteArray)]) ?_ 2 _ rfl; (with_reducible repeat first | apply bN | apply bd | apply ba); refine blk_put (cs := #[.int .i64 a0_0, .int .i64 0, .string (⟨#[]⟩ : ByteArray)]) ?_ 1 _ rfl; (with_reducible repeat first | apply bN | apply bd | apply ba); refine blk_put (cs := #[.int .i64 0, .int .i64 0, .string (⟨#[]⟩ : ByteArray)]) ?_ 0 _ rfl; (with_reducible repeat first | apply bN | apply bd | apply ba); exact BK314.out⟩, ⟨by repeat (first | (with_reducible first | exact HB.out | apply wa | apply wN | apply wd | refine ws ?_ GE313.out | refine ws ?_ GE314.out) | exact HB.out)⟩⟩
  case round =>
    clear H'
    try clear c1
    try clear c2
    try clear c2b0
    try clear c2b1
    try clear p2
    try clear c6
    try clear c12
    try clear hcz10_0
    try clear hcz10_1
    try clear hcz10_2
    try clear hcz10_7
    try clear hcz13_0
    try clear hcz13_1
    try clear hcz13_2
    try clear hcz14_0
    try clear hcz14_1
    try clear hcz14_2
    try clear hcz14_7
    try clear hcz4_0
    try clear hcz4_1
    try clear hcz4_2
    try clear hcz4_7
    try clear hcz7_0
    try clear hcz7_1
    try clear hcz7_2
    try clear hcz8_0
    try clear hcz8_1
    try clear hcz8_2
    try clear hcz8_7
    try clear hfz13_0
    try clear hfz13_1
    try clear hfz13_2
    try clear hfz7_0
    try clear hfz7_1
    try clear hfz7_2
    obtain ⟨x4_1, rfl, HA, HK1, BK313, BK314, HB⟩ := hrel
    cases gk with
    | zero => exact absurd HA.out (by simp [spec_SafeYard.l0])
    | succ k1 =>
      have H := HA.out
      clear HA
      simp only [spec_SafeYard.l0] at H
      by_cases c15 : x4_1 < (l0_7.length : Int)
      rotate_left
      · rw [if_neg c15] at H
        have c15b0 : decide (x4_1 < (l0_7.length : Int)) = false := decide_eq_false c15
        clear c15
        obtain rfl := Option.some.inj H
        have hnb130 := NB313_314.out
        have hnc130 := NB314_313.out
        have hcz131_0 : wr.cell? ⟨gb313, 0, none⟩ = some (.int .i64 a0_0) := (bc BK313.out 0).trans rfl
        have hcz131_1 : wr.cell? ⟨gb313, 1, none⟩ = some (.int .i64 a0_1) := (bc BK313.out 1).trans rfl
        have hcz131_2 : wr.cell? ⟨gb313, 2, none⟩ = some (.string a0_2) := (bc BK313.out 2).trans rfl
        have hcz131_7 : wr.cell? ⟨gb313, 7, none⟩ = some (.slice A0_7 l0_7.length c0_7) := (bc BK313.out 7).trans rfl
        go_wp2
        go_ret
        exact ⟨by first | rfl | (simp [errW_none, errW_some] <;> rfl) | (simp [*, errW_none, errW_some] <;> rfl), by repeat (first | (with_reducible first | exact HB.out | apply wa | apply wN | apply wd | refine ws ?_ GE313.out | refine ws ?_ GE314.out) | exact HB.out)⟩
      rw [if_pos c15] at H
      have c15b0 : decide (x4_1 < (l0_7.length : Int)) = true := decide_eq_true c15
      clear c15
      by_cases c16 : 0 ≤ x4_1
      rotate_left
      · rw [if_neg c16] at H
        exact absurd H (by simp)
      rw [if_pos c16] at H
      have c16b0 : decide (0 ≤ x4_1) = true := decide_eq_true c16
      clear c16
      have HC17 := Aside0.mk H
      clear H
      have hnb18 := NB313_314.out
      have hnc18 := NB314_313.out
      have hcz19_0 : wr.cell? ⟨gb313, 0, none⟩ = some (.int .i64 a0_0) := (bc BK313.out 0).trans rfl
      have hcz19_1 : wr.cell? ⟨gb313, 1, none⟩ = some (.int .i64 a0_1) := (bc BK313.out 1).trans rfl
      have hcz19_2 : wr.cell? ⟨gb313, 2, none⟩ = some (.string a0_2) := (bc BK313.out 2).trans rfl
      have hcz19_7 : wr.cell? ⟨gb313, 7, none⟩ = some (.slice A0_7 l0_7.length c0_7) := (bc BK313.out 7).trans rfl
      have p315 : 0 ≤ (x4_1 : Int) := of_decide_eq_true (by first | (with_reducible assumption) | assumption)
      have q315 : x4_1 < (l0_7.length : Int) := of_decide_eq_true (by first | (with_reducible assumption) | assumption)
      obtain ⟨ad315, e315, hx315_0, hx315_1, hx315_2, hx315_3⟩ := at_T84 HR0_7.out x4_1 p315 q315
      cases e315
      replace hx315_0 := (HB.out.cell (World.block_lt_of_cell? w _ hx315_0)).trans hx315_0
      replace hx315_1 := (HB.out.cell (World.block_lt_of_cell? w _ hx315_1)).trans hx315_1
      replace hx315_2 := (HB.out.cell (World.block_lt_of_cell? w _ hx315_2)).trans hx315_2
      replace hx315_3 := (HB.out.cell (World.block_lt_of_cell? w _ hx315_3)).trans hx315_3
      replace p315 := eq_true p315
      replace q315 := eq_true q315
      go_upto_region 8 with (first | ((with_reducible refine gate_dst (N := 5) rfl ?_); refine box_event ?hg (N := 5) ?hd (cs := #[.int .i64 0, .int .i64 0, .int .i64 0, .bool false]) (t := 84) ?hr ?_; (case hd => rfl); (case hg => rfl); (case hr => first | (go_simp; done) | (go_simp; rfl)); intro gb316 hg w20 hbox hb; have n0_ := Aside0.mk (bb (g := gb313) (by first | (with_reducible exact BK313.out) | (with_reducible exact bN BK313.out _) | (with_reducible exact bd BK313.out) | ((with_reducible repeat first | apply bN | apply bd | apply ba); exact BK313.out)) hb); have n1_ := Aside0.mk (bb (g := gb314) (by first | (with_reducible exact BK314.out) | (with_reducible exact bN BK314.out _) | (with_reducible exact bd BK314.out) | ((with_reducible repeat first | apply bN | apply bd | apply ba); exact BK314.out)) hb); have n2_ := Aside0.mk (below_step (by repeat (first | (with_reducible first | exact HB.out | apply wa | apply wN | apply wd | refine ws ?_ GE313.out | refine ws ?_ GE314.out) | exact HB.out)) hb); have n3_ := Aside0.mk (hbox); have n4_ := Aside0.mk ((by rw [hg]; exact (below_size (by repeat (first | (with_reducible first | exact HB.out | apply wa | apply wN | apply wd | refine ws ?_ GE313.out | refine ws ?_ GE314.out) | exact HB.out))) : w.heap.size ≤ gb316)); have n5_ := n4_; have n6_ := Aside0.mk ((by rw [hg]; exact Nat.ne_of_lt (blk_lt (g := gb313) (by (with_reducible repeat first | apply bN | apply bd | apply ba); exact BK313.out)) : gb313 ≠ gb316)); have n7_ := Aside0.mk ((by rw [hg]; exact Nat.ne_of_gt (blk_lt (g := gb313) (by (with_reducible repeat first | apply bN | apply bd | apply ba); exact BK313.out)) : gb316 ≠ gb313)); have n8_ := Aside0.mk ((by rw [hg]; exact Nat.ne_of_lt (blk_lt (g := gb314) (by (with_reducible repeat first | apply bN | apply bd | apply ba); exact BK314.out)) : gb314 ≠ gb316)); have n9_ := Aside0.mk ((by rw [hg]; exact Nat.ne_of_gt (blk_lt (g := gb314) (by (with_reducible repeat first | apply bN | apply bd | apply ba); exact BK314.out)) : gb316 ≠ gb314)); clear BK313; clear BK314; clear HB; have BK313 := n0_; have BK314 := n1_; have HB := n2_; have BK316 := n3_; have GW316 := n4_; have GE316 := n5_; have NB313_316 := n6_; have NB316_313 := n7_; have NB314_316 := n8_; have NB316_314 := n9_; clear n0_ n1_ n2_ n3_ n4_ n5_ n6_ n7_ n8_ n9_; clear hb hbox hg; have hnb21 := NB316_313.out; have hnc21 := NB313_316.out; have hnb22 := NB316_314.out; have hnc22 := NB314_316.out; have hcz23_0 : w20.cell? ⟨gb316, 0, none⟩ = some (.int .i64 0) := (bc BK316.out 0).trans rfl; have hcz23_1 : w20.cell? ⟨gb316, 1, none⟩ = some (.int .i64 0) := (bc BK316.out 1).trans rfl; have hcz23_2 : w20.cell? ⟨gb316, 2, none⟩ = some (.int .i64 0) := (bc BK316.out 2).trans rfl; have hcz23_3 : w20.cell? ⟨gb316, 3, none⟩ = some (.bool false) := (bc BK316.out 3).trans rfl; have hfz23_0 := bz BK316.out 0; have hfz23_1 := bz BK316.out 1; have hfz23_2 := bz BK316.out 2; have hfz23_3 := bz BK316.out 3))
      (try simp only [Act.put, List.setIfInBounds_toArray, List.set_cons_zero, List.set_cons_succ])
      go_cut [45] (fun v45 wc => ∃ (kq : Nat) (x45_16 : Bool), v45 = .bool x45_16 ∧ Aside0 (spec_SafeYard.j1 kq x4_1 x45_16 a0_0 a0_1 a0_2 a0_3 a0_4 a0_5 a0_6 l0_7 a0_8 a0_9 l0_10 a0_11 a0_12 a0_13 a0_14 l0_15 l0_16 l0_17 a0_0 a0_1 a0_2 ((rd_T84 l0_7 x4_1).f0) ((rd_T84 l0_7 x4_1).f1) ((rd_T84 l0_7 x4_1).f2) ((rd_T84 l0_7 x4_1).f3) = some r) ∧ Aside0 (kq ≤ k1) ∧ Aside0 (wc.heap[gb313]? = some (.cells #[.int .i64 a0_0, .int .i64 a0_1, .string a0_2, .int .i64 a0_3, .int .i64 a0_4, .int .i64 a0_5, .int .i64 a0_6, (.slice (some ad315) l0_7.length c0_7), .int .i64 a0_8, .int .i64 a0_9, (.slice A0_10 l0_10.length c0_10), .int .i64 a0_11, .bool a0_12, .int .i64 a0_13, .int .i64 a0_14, (.slice A0_15 l0_15.length c0_15), (.slice A0_16 l0_16.length c0_16), (.slice A0_17 l0_17.length c0_17)] 39 (0, 0))) ∧ Aside0 (wc.heap[gb314]? = some (.cells #[.int .i64 a0_0, .int .i64 a0_1, .string a0_2] 27 (0, 0))) ∧ Aside0 (wc.heap[gb316]? = some (.cells #[.int .i64 ((rd_T84 l0_7 x4_1).f0), .int .i64 ((rd_T84 l0_7 x4_1).f1), .int .i64 ((rd_T84 l0_7 x4_1).f2), .bool ((rd_T84 l0_7 x4_1).f3)] 84 (0, 0))) ∧ Aside0 (Below w.heap.size w wc))
      case first =>
        have H := HC17.out
        clear HC17
        replace H := Option.bind_eq_some_iff.mp H
        obtain ⟨t317, A240, H⟩ := H
        try dsimp only at H
        have A24 := Aside0.mk A240
        clear A240
        by_cases c25 : t317 = true
        rotate_left
        · replace c25 := Bool.eq_false_iff.mpr c25
          subst c25
          rw [if_neg (show ¬ (false = true) by decide)] at H
          have H' := Aside0.mk H
          clear H
          have hnb44 := NB314_313.out
          have hnc44 := NB313_314.out
          have hnb45 := NB314_316.out
          have hnc45 := NB316_314.out
          have hcz46_0 : w20.cell? ⟨gb314, 0, none⟩ = some (.int .i64 a0_0) := (bc BK314.out 0).trans rfl
          have hcz46_1 : w20.cell? ⟨gb314, 1, none⟩ = some (.int .i64 a0_1) := (bc BK314.out 1).trans rfl
          have hcz46_2 : w20.cell? ⟨gb314, 2, none⟩ = some (.string a0_2) := (bc BK314.out 2).trans rfl
          have hfz46_0 := bz BK314.out 0
          have hfz46_1 := bz BK314.out 1
          have hfz46_2 := bz BK314.out 2
          have hnb47 := NB316_313.out
          have hnc47 := NB313_316.out
          have hcz48_0 : w20.cell? ⟨gb316, 0, none⟩ = some (.int .i64 0) := (bc BK316.out 0).trans rfl
          have hcz48_1 : w20.cell? ⟨gb316, 1, none⟩ = some (.int .i64 0) := (bc BK316.out 1).trans rfl
          have hcz48_2 : w20.cell? ⟨gb316, 2, none⟩ = some (.int .i64 0) := (bc BK316.out 2).trans rfl
          have hcz48_3 : w20.cell? ⟨gb316, 3, none⟩ = some (.bool false) := (bc BK316.out 3).trans rfl
          have hfz48_0 := bz BK316.out 0
          have hfz48_1 := bz BK316.out 1
          have hfz48_2 := bz BK316.out 2
          have hfz48_3 := bz BK316.out 3
          go_wp2_with (first | ((with_reducible refine gate_callee (f := 78) rfl ?_); refine goesL_ (some 30) rfl rfl Try.func78 (by kernel_rfl) rfl #[.agg #[.int .i64 a0_0, .int .i64 a0_1, .string a0_2], .int .i64 ((rd_T84 l0_7 x4_1).f1)] rfl (by (try simp only [List.map_toArray, List.map_cons, List.map_nil]); first | done | rfl | (simp only [List.length_drop, List.length_take]; rfl)) ?_; (with_reducible refine (spec_FreeAt.calls k1 a0_0 a0_1 a0_2 ((rd_T84 l0_7 x4_1).f1) false _ A24.out).mono ?_); rintro e w49 ⟨rfl, hb⟩; refine ⟨_, rfl, ?_⟩; have n0_ := Aside0.mk (bb (g := gb313) (o := .cells #[.int .i64 a0_0, .int .i64 a0_1, .string a0_2, .int .i64 a0_3, .int .i64 a0_4, .int .i64 a0_5, .int .i64 a0_6, .slice (some ad315) l0_7.length c0_7, .int .i64 a0_8, .int .i64 a0_9, .slice A0_10 l0_10.length c0_10, .int .i64 a0_11, .bool a0_12, .int .i64 a0_13, .int .i64 a0_14, .slice A0_15 l0_15.length c0_15, .slice A0_16 l0_16.length c0_16, .slice A0_17 l0_17.length c0_17] 39 (0, 0)) (by (with_reducible repeat first | apply bN | apply bd | apply ba); refine blk_far ?_ NB313_316.out _; (with_reducible repeat first | apply bN | apply bd | apply ba); refine blk_far ?_ NB313_316.out _; (with_reducible repeat first | apply bN | apply bd | apply ba); refine blk_far ?_ NB313_316.out _; (with_reducible repeat first | apply bN | apply bd | apply ba); refine blk_far ?_ NB313_316.out _; (with_reducible repeat first | apply bN | apply bd | apply ba); exact BK313.out) hb); have n1_ := Aside0.mk (bb (g := gb314) (o := .cells #[.int .i64 a0_0, .int .i64 a0_1, .string a0_2] 27 (0, 0)) (by (with_reducible repeat first | apply bN | apply bd | apply ba); refine blk_far ?_ NB314_316.out _; (with_reducible repeat first | apply bN | apply bd | apply ba); refine blk_far ?_ NB314_316.out _; (with_reducible repeat first | apply bN | apply bd | apply ba); refine blk_far ?_ NB314_316.out _; (with_reducible repeat first | apply bN | apply bd | apply ba); refine blk_far ?_ NB314_316.out _; (with_reducible repeat first | apply bN | apply bd | apply ba); exact BK314.out) hb); have n2_ := Aside0.mk (bb (g := gb316) (o := .cells #[.int .i64 ((rd_T84 l0_7 x4_1).f0), .int .i64 ((rd_T84 l0_7 x4_1).f1), .int .i64 ((rd_T84 l0_7 x4_1).f2), .bool ((rd_T84 l0_7 x4_1).f3)] 84 (0, 0)) (by (with_reducible repeat first | apply bN | apply bd | apply ba); refine blk_put (cs := #[.int .i64 ((rd_T84 l0_7 x4_1).f0), .int .i64 ((rd_T84 l0_7 x4_1).f1), .int .i64 ((rd_T84 l0_7 x4_1).f2), .bool false]) ?_ 3 _ rfl; (with_reducible repeat first | apply bN | apply bd | apply ba); refine blk_put (cs := #[.int .i64 ((rd_T84 l0_7 x4_1).f0), .int .i64 ((rd_T84 l0_7 x4_1).f1), .int .i64 0, .bool false]) ?_ 2 _ rfl; (with_reducible repeat first | apply bN | apply bd | apply ba); refine blk_put (cs := #[.int .i64 ((rd_T84 l0_7 x4_1).f0), .int .i64 0, .int .i64 0, .bool false]) ?_ 1 _ rfl; (with_reducible repeat first | apply bN | apply bd | apply ba); refine blk_put (cs := #[.int .i64 0, .int .i64 0, .int .i64 0, .bool false]) ?_ 0 _ rfl; (with_reducible repeat first | apply bN | apply bd | apply ba); exact BK316.out) hb); have n3_ := Aside0.mk (below_step (by repeat (first | (with_reducible first | exact HB.out | apply wa | apply wN | apply wd | refine ws ?_ GE313.out | refine ws ?_ GE314.out | refine ws ?_ GE316.out) | exact HB.out)) hb); clear BK313; clear BK314; clear BK316; clear HB; have BK313 := n0_; have BK314 := n1_; have BK316 := n2_; have HB := n3_; clear n0_ n1_ n2_ n3_; (try clear hb); (try clear hb2); (try clear hk); (try clear hi)))
          go_meet
          case rel => exact ⟨_, (true), (by first | rfl | (simp; done) | (simp [*]; done)), H', ⟨by have := HK1.out; first | omega | exact Nat.le_refl _⟩, ⟨by (with_reducible repeat first | apply bN | apply bd | apply ba); exact BK313.out⟩, ⟨by (with_reducible repeat first | apply bN | apply bd | apply ba); exact BK314.out⟩, ⟨by (with_reducible repeat first | apply bN | apply bd | apply ba); exact BK316.out⟩, ⟨by repeat (first | (with_reducible first | exact HB.out | apply wa | apply wN | apply wd | refine ws ?_ GE313.out | refine ws ?_ GE314.out | refine ws ?_ GE316.out) | exact HB.out)⟩⟩
        subst c25
        rw [if_pos rfl] at H
        by_cases c26 : ((rd_T84 l0_7 x4_1).f2) = (-1)
        · rw [if_pos c26] at H
          have c26b0 : (((rd_T84 l0_7 x4_1).f2) == (-1)) = true := beq_iff_eq.mpr c26
          have c26b1 : (((rd_T84 l0_7 x4_1).f2) != (-1)) = false := bne_eq_false_iff_eq.mpr c26
          clear c26
          (first | rw [c26b0] | (simp only [i64_w, i32_w]; rw [c26b0]) | skip)
          have H' := Aside0.mk H
          clear H
          have hnb27 := NB314_313.out
          have hnc27 := NB313_314.out
          have hnb28 := NB314_316.out
          have hnc28 := NB316_314.out
          have hcz29_0 : w20.cell? ⟨gb314, 0, none⟩ = some (.int .i64 a0_0) := (bc BK314.out 0).trans rfl
          have hcz29_1 : w20.cell? ⟨gb314, 1, none⟩ = some (.int .i64 a0_1) := (bc BK314.out 1).trans rfl
          have hcz29_2 : w20.cell? ⟨gb314, 2, none⟩ = some (.string a0_2) := (bc BK314.out 2).trans rfl
          have hfz29_0 := bz BK314.out 0
          have hfz29_1 := bz BK314.out 1
          have hfz29_2 := bz BK314.out 2
          have hnb30 := NB316_313.out
          have hnc30 := NB313_316.out
          have hcz31_0 : w20.cell? ⟨gb316, 0, none⟩ = some (.int .i64 0) := (bc BK316.out 0).trans rfl
          have hcz31_1 : w20.cell? ⟨gb316, 1, none⟩ = some (.int .i64 0) := (bc BK316.out 1).trans rfl
          have hcz31_2 : w20.cell? ⟨gb316, 2, none⟩ = some (.int .i64 0) := (bc BK316.out 2).trans rfl
          have hcz31_3 : w20.cell? ⟨gb316, 3, none⟩ = some (.bool false) := (bc BK316.out 3).trans rfl
          have hfz31_0 := bz BK316.out 0
          have hfz31_1 := bz BK316.out 1
          have hfz31_2 := bz BK316.out 2
          have hfz31_3 := bz BK316.out 3
          go_wp2_with (first | ((with_reducible refine gate_callee (f := 78) rfl ?_); refine goesL_ (some 30) rfl rfl Try.func78 (by kernel_rfl) rfl #[.agg #[.int .i64 a0_0, .int .i64 a0_1, .string a0_2], .int .i64 ((rd_T84 l0_7 x4_1).f1)] rfl (by (try simp only [List.map_toArray, List.map_cons, List.map_nil]); first | done | rfl | (simp only [List.length_drop, List.length_take]; rfl)) ?_; (with_reducible refine (spec_FreeAt.calls k1 a0_0 a0_1 a0_2 ((rd_T84 l0_7 x4_1).f1) true _ A24.out).mono ?_); rintro e w32 ⟨rfl, hb⟩; refine ⟨_, rfl, ?_⟩; have n0_ := Aside0.mk (bb (g := gb313) (o := .cells #[.int .i64 a0_0, .int .i64 a0_1, .string a0_2, .int .i64 a0_3, .int .i64 a0_4, .int .i64 a0_5, .int .i64 a0_6, .slice (some ad315) l0_7.length c0_7, .int .i64 a0_8, .int .i64 a0_9, .slice A0_10 l0_10.length c0_10, .int .i64 a0_11, .bool a0_12, .int .i64 a0_13, .int .i64 a0_14, .slice A0_15 l0_15.length c0_15, .slice A0_16 l0_16.length c0_16, .slice A0_17 l0_17.length c0_17] 39 (0, 0)) (by (with_reducible repeat first | apply bN | apply bd | apply ba); refine blk_far ?_ NB313_316.out _; (with_reducible repeat first | apply bN | apply bd | apply ba); refine blk_far ?_ NB313_316.out _; (with_reducible repeat first | apply bN | apply bd | apply ba); refine blk_far ?_ NB313_316.out _; (with_reducible repeat first | apply bN | apply bd | apply ba); refine blk_far ?_ NB313_316.out _; (with_reducible repeat first | apply bN | apply bd | apply ba); exact BK313.out) hb); have n1_ := Aside0.mk (bb (g := gb314) (o := .cells #[.int .i64 a0_0, .int .i64 a0_1, .string a0_2] 27 (0, 0)) (by (with_reducible repeat first | apply bN | apply bd | apply ba); refine blk_far ?_ NB314_316.out _; (with_reducible repeat first | apply bN | apply bd | apply ba); refine blk_far ?_ NB314_316.out _; (with_reducible repeat first | apply bN | apply bd | apply ba); refine blk_far ?_ NB314_316.out _; (with_reducible repeat first | apply bN | apply bd | apply ba); refine blk_far ?_ NB314_316.out _; (with_reducible repeat first | apply bN | apply bd | apply ba); exact BK314.out) hb); have n2_ := Aside0.mk (bb (g := gb316) (o := .cells #[.int .i64 ((rd_T84 l0_7 x4_1).f0), .int .i64 ((rd_T84 l0_7 x4_1).f1), .int .i64 ((rd_T84 l0_7 x4_1).f2), .bool ((rd_T84 l0_7 x4_1).f3)] 84 (0, 0)) (by (with_reducible repeat first | apply bN | apply bd | apply ba); refine blk_put (cs := #[.int .i64 ((rd_T84 l0_7 x4_1).f0), .int .i64 ((rd_T84 l0_7 x4_1).f1), .int .i64 ((rd_T84 l0_7 x4_1).f2), .bool false]) ?_ 3 _ rfl; (with_reducible repeat first | apply bN | apply bd | apply ba); refine blk_put (cs := #[.int .i64 ((rd_T84 l0_7 x4_1).f0), .int .i64 ((rd_T84 l0_7 x4_1).f1), .int .i64 0, .bool false]) ?_ 2 _ rfl; (with_reducible repeat first | apply bN | apply bd | apply ba); refine blk_put (cs := #[.int .i64 ((rd_T84 l0_7 x4_1).f0), .int .i64 0, .int .i64 0, .bool false]) ?_ 1 _ rfl; (with_reducible repeat first | apply bN | apply bd | apply ba); refine blk_put (cs := #[.int .i64 0, .int .i64 0, .int .i64 0, .bool false]) ?_ 0 _ rfl; (with_reducible repeat first | apply bN | apply bd | apply ba); exact BK316.out) hb); have n3_ := Aside0.mk (below_step (by repeat (first | (with_reducible first | exact HB.out | apply wa | apply wN | apply wd | refine ws ?_ GE313.out | refine ws ?_ GE314.out | refine ws ?_ GE316.out) | exact HB.out)) hb); clear BK313; clear BK314; clear BK316; clear HB; have BK313 := n0_; have BK314 := n1_; have BK316 := n2_; have HB := n3_; clear n0_ n1_ n2_ n3_; (try clear hb); (try clear hb2); (try clear hk); (try clear hi); have hcz33_0 : w32.cell? ⟨gb316, 0, none⟩ = some (.int .i64 ((rd_T84 l0_7 x4_1).f0)) := (bc BK316.out 0).trans rfl; have hcz33_1 : w32.cell? ⟨gb316, 1, none⟩ = some (.int .i64 ((rd_T84 l0_7 x4_1).f1)) := (bc BK316.out 1).trans rfl; have hcz33_2 : w32.cell? ⟨gb316, 2, none⟩ = some (.int .i64 ((rd_T84 l0_7 x4_1).f2)) := (bc BK316.out 2).trans rfl; have hcz33_3 : w32.cell? ⟨gb316, 3, none⟩ = some (.bool ((rd_T84 l0_7 x4_1).f3)) := (bc BK316.out 3).trans rfl; have hfz33_0 := bz BK316.out 0; have hfz33_1 := bz BK316.out 1; have hfz33_2 := bz BK316.out 2; have hfz33_3 := bz BK316.out 3))
          go_meet
          case rel => exact ⟨_, (false), (by first | rfl | (simp; done) | (simp [*]; done)), H', ⟨by have := HK1.out; first | omega | exact Nat.le_refl _⟩, ⟨by (with_reducible repeat first | apply bN | apply bd | apply ba); exact BK313.out⟩, ⟨by (with_reducible repeat first | apply bN | apply bd | apply ba); exact BK314.out⟩, ⟨by (with_reducible repeat first | apply bN | apply bd | apply ba); exact BK316.out⟩, ⟨by repeat (first | (with_reducible first | exact HB.out | apply wa | apply wN | apply wd | refine ws ?_ GE313.out | refine ws ?_ GE314.out | refine ws ?_ GE316.out) | exact HB.out)⟩⟩
        rw [if_neg c26] at H
        have c26b0 : (((rd_T84 l0_7 x4_1).f2) == (-1)) = false := beq_eq_false_iff_ne.mpr c26
        have c26b1 : (((rd_T84 l0_7 x4_1).f2) != (-1)) = true := bne_iff_ne.mpr c26
        (first | rw [c26b0] | (simp only [i64_w, i32_w]; rw [c26b0]) | skip)
        replace H := Option.bind_eq_some_iff.mp H
        obtain ⟨t318, A340, H⟩ := H
        try dsimp only at H
        have A34 := Aside0.mk A340
        clear A340
        have H' := Aside0.mk H
        clear H
        have hnb35 := NB314_313.out
        have hnc35 := NB313_314.out
        have hnb36 := NB314_316.out
        have hnc36 := NB316_314.out
        have hcz37_0 : w20.cell? ⟨gb314, 0, none⟩ = some (.int .i64 a0_0) := (bc BK314.out 0).trans rfl
        have hcz37_1 : w20.cell? ⟨gb314, 1, none⟩ = some (.int .i64 a0_1) := (bc BK314.out 1).trans rfl
        have hcz37_2 : w20.cell? ⟨gb314, 2, none⟩ = some (.string a0_2) := (bc BK314.out 2).trans rfl
        have hfz37_0 := bz BK314.out 0
        have hfz37_1 := bz BK314.out 1
        have hfz37_2 := bz BK314.out 2
        have hnb38 := NB316_313.out
        have hnc38 := NB313_316.out
        have hcz39_0 : w20.cell? ⟨gb316, 0, none⟩ = some (.int .i64 0) := (bc BK316.out 0).trans rfl
        have hcz39_1 : w20.cell? ⟨gb316, 1, none⟩ = some (.int .i64 0) := (bc BK316.out 1).trans rfl
        have hcz39_2 : w20.cell? ⟨gb316, 2, none⟩ = some (.int .i64 0) := (bc BK316.out 2).trans rfl
        have hcz39_3 : w20.cell? ⟨gb316, 3, none⟩ = some (.bool false) := (bc BK316.out 3).trans rfl
        have hfz39_0 := bz BK316.out 0
        have hfz39_1 := bz BK316.out 1
        have hfz39_2 := bz BK316.out 2
        have hfz39_3 := bz BK316.out 3
        go_wp2_with (first | ((with_reducible refine gate_callee (f := 78) rfl ?_); refine goesL_ (some 30) rfl rfl Try.func78 (by kernel_rfl) rfl #[.agg #[.int .i64 a0_0, .int .i64 a0_1, .string a0_2], .int .i64 ((rd_T84 l0_7 x4_1).f1)] rfl (by (try simp only [List.map_toArray, List.map_cons, List.map_nil]); first | done | rfl | (simp only [List.length_drop, List.length_take]; rfl)) ?_; (with_reducible refine (spec_FreeAt.calls k1 a0_0 a0_1 a0_2 ((rd_T84 l0_7 x4_1).f1) true _ A24.out).mono ?_); rintro e w40 ⟨rfl, hb⟩; refine ⟨_, rfl, ?_⟩; have n0_ := Aside0.mk (bb (g := gb313) (o := .cells #[.int .i64 a0_0, .int .i64 a0_1, .string a0_2, .int .i64 a0_3, .int .i64 a0_4, .int .i64 a0_5, .int .i64 a0_6, .slice (some ad315) l0_7.length c0_7, .int .i64 a0_8, .int .i64 a0_9, .slice A0_10 l0_10.length c0_10, .int .i64 a0_11, .bool a0_12, .int .i64 a0_13, .int .i64 a0_14, .slice A0_15 l0_15.length c0_15, .slice A0_16 l0_16.length c0_16, .slice A0_17 l0_17.length c0_17] 39 (0, 0)) (by (with_reducible repeat first | apply bN | apply bd | apply ba); refine blk_far ?_ NB313_316.out _; (with_reducible repeat first | apply bN | apply bd | apply ba); refine blk_far ?_ NB313_316.out _; (with_reducible repeat first | apply bN | apply bd | apply ba); refine blk_far ?_ NB313_316.out _; (with_reducible repeat first | apply bN | apply bd | apply ba); refine blk_far ?_ NB313_316.out _; (with_reducible repeat first | apply bN | apply bd | apply ba); exact BK313.out) hb); have n1_ := Aside0.mk (bb (g := gb314) (o := .cells #[.int .i64 a0_0, .int .i64 a0_1, .string a0_2] 27 (0, 0)) (by (with_reducible repeat first | apply bN | apply bd | apply ba); refine blk_far ?_ NB314_316.out _; (with_reducible repeat first | apply bN | apply bd | apply ba); refine blk_far ?_ NB314_316.out _; (with_reducible repeat first | apply bN | apply bd | apply ba); refine blk_far ?_ NB314_316.out _; (with_reducible repeat first | apply bN | apply bd | apply ba); refine blk_far ?_ NB314_316.out _; (with_reducible repeat first | apply bN | apply bd | apply ba); exact BK314.out) hb); have n2_ := Aside0.mk (bb (g := gb316) (o := .cells #[.int .i64 ((rd_T84 l0_7 x4_1).f0), .int .i64 ((rd_T84 l0_7 x4_1).f1), .int .i64 ((rd_T84 l0_7 x4_1).f2), .bool ((rd_T84 l0_7 x4_1).f3)] 84 (0, 0)) (by (with_reducible repeat first | apply bN | apply bd | apply ba); refine blk_put (cs := #[.int .i64 ((rd_T84 l0_7 x4_1).f0), .int .i64 ((rd_T84 l0_7 x4_1).f1), .int .i64 ((rd_T84 l0_7 x4_1).f2), .bool false]) ?_ 3 _ rfl; (with_reducible repeat first | apply bN | apply bd | apply ba); refine blk_put (cs := #[.int .i64 ((rd_T84 l0_7 x4_1).f0), .int .i64 ((rd_T84 l0_7 x4_1).f1), .int .i64 0, .bool false]) ?_ 2 _ rfl; (with_reducible repeat first | apply bN | apply bd | apply ba); refine blk_put (cs := #[.int .i64 ((rd_T84 l0_7 x4_1).f0), .int .i64 0, .int .i64 0, .bool false]) ?_ 1 _ rfl; (with_reducible repeat first | apply bN | apply bd | apply ba); refine blk_put (cs := #[.int .i64 0, .int .i64 0, .int .i64 0, .bool false]) ?_ 0 _ rfl; (with_reducible repeat first | apply bN | apply bd | apply ba); exact BK316.out) hb); have n3_ := Aside0.mk (below_step (by repeat (first | (with_reducible first | exact HB.out | apply wa | apply wN | apply wd | refine ws ?_ GE313.out | refine ws ?_ GE314.out | refine ws ?_ GE316.out) | exact HB.out)) hb); clear BK313; clear BK314; clear BK316; clear HB; have BK313 := n0_; have BK314 := n1_; have BK316 := n2_; have HB := n3_; clear n0_ n1_ n2_ n3_; (try clear hb); (try clear hb2); (try clear hk); (try clear hi); have hcz41_0 : w40.cell? ⟨gb316, 0, none⟩ = some (.int .i64 ((rd_T84 l0_7 x4_1).f0)) := (bc BK316.out 0).trans rfl; have hcz41_1 : w40.cell? ⟨gb316, 1, none⟩ = some (.int .i64 ((rd_T84 l0_7 x4_1).f1)) := (bc BK316.out 1).trans rfl; have hcz41_2 : w40.cell? ⟨gb316, 2, none⟩ = some (.int .i64 ((rd_T84 l0_7 x4_1).f2)) := (bc BK316.out 2).trans rfl; have hcz41_3 : w40.cell? ⟨gb316, 3, none⟩ = some (.bool ((rd_T84 l0_7 x4_1).f3)) := (bc BK316.out 3).trans rfl; have hfz41_0 := bz BK316.out 0; have hfz41_1 := bz BK316.out 1; have hfz41_2 := bz BK316.out 2; have hfz41_3 := bz BK316.out 3; have hcz42_0 : w40.cell? ⟨gb314, 0, none⟩ = some (.int .i64 a0_0) := (bc BK314.out 0).trans rfl; have hcz42_1 : w40.cell? ⟨gb314, 1, none⟩ = some (.int .i64 a0_1) := (bc BK314.out 1).trans rfl; have hcz42_2 : w40.cell? ⟨gb314, 2, none⟩ = some (.string a0_2) := (bc BK314.out 2).trans rfl; have hfz42_0 := bz BK314.out 0; have hfz42_1 := bz BK314.out 1; have hfz42_2 := bz BK314.out 2) | (go_at_call 79; (with_reducible refine (spec_StepsTo.calls k1 a0_0 a0_1 a0_2 ((rd_T84 l0_7 x4_1).f1) ((rd_T84 l0_7 x4_1).f2) t318 _ A34.out).mono ?_); rintro e w43 ⟨rfl, hb⟩; have n0_ := Aside0.mk (bb (g := gb313) (by first | (with_reducible exact BK313.out) | (with_reducible exact bN BK313.out _) | (with_reducible exact bd BK313.out) | ((with_reducible repeat first | apply bN | apply bd | apply ba); exact BK313.out)) hb); have n1_ := Aside0.mk (bb (g := gb314) (by first | (with_reducible exact BK314.out) | (with_reducible exact bN BK314.out _) | (with_reducible exact bd BK314.out) | ((with_reducible repeat first | apply bN | apply bd | apply ba); exact BK314.out)) hb); have n2_ := Aside0.mk (bb (g := gb316) (by first | (with_reducible exact BK316.out) | (with_reducible exact bN BK316.out _) | (with_reducible exact bd BK316.out) | ((with_reducible repeat first | apply bN | apply bd | apply ba); exact BK316.out)) hb); have n3_ := Aside0.mk (below_step (by repeat (first | (with_reducible first | exact HB.out | apply wa | apply wN | apply wd | refine ws ?_ GE313.out | refine ws ?_ GE314.out | refine ws ?_ GE316.out) | exact HB.out)) hb); clear BK313; clear BK314; clear BK316; clear HB; have BK313 := n0_; have BK314 := n1_; have BK316 := n2_; have HB := n3_; clear n0_ n1_ n2_ n3_; (try clear hb); (try clear hb2); (try clear hk); (try clear hi)))
        go_meet
        case rel => exact ⟨_, ((t318 != 1)), (by first | rfl | (simp; done) | (simp [*]; done)), H', ⟨by have := HK1.out; first | omega | exact Nat.le_refl _⟩, ⟨by (with_reducible repeat first | apply bN | apply bd | apply ba); exact BK313.out⟩, ⟨by (with_reducible repeat first | apply bN | apply bd | apply ba); exact BK314.out⟩, ⟨by (with_reducible repeat first | apply bN | apply bd | apply ba); exact BK316.out⟩, ⟨by repeat (first | (with_reducible first | exact HB.out | apply wa | apply wN | apply wd | refine ws ?_ GE313.out | refine ws ?_ GE314.out | refine ws ?_ GE316.out) | exact HB.out)⟩⟩
      case rest =>
        clear HC17
        try clear c1
        try clear c2
        try clear c2b0
        try clear c2b1
        try clear p2
        try clear c3
        try clear p3
        try clear q3
        try clear hx3
        try clear c4
        try clear c6
        try clear c7
        try clear c12
        try clear c15
        try clear c15b0
        try clear c16
        try clear c16b0
        try clear c18
        try clear c20
        try clear c21
        try clear c22
        try clear c25
        try clear c26
        try clear c26b0
        try clear c26b1
        try clear c27
        try clear c28
        try clear c30
        try clear p31
        try clear q31
        try clear hx31
        try clear c35
        try clear c36
        try clear c38
        try clear c44
        try clear c45
        try clear c47
        try clear hcz10_0
        try clear hcz10_1
        try clear hcz10_2
        try clear hcz10_7
        try clear hcz13_0
        try clear hcz13_1
        try clear hcz13_2
        try clear hcz14_0
        try clear hcz14_1
        try clear hcz14_2
        try clear hcz14_7
        try clear hcz19_0
        try clear hcz19_1
        try clear hcz19_2
        try clear hcz19_7
        try clear hcz23_0
        try clear hcz23_1
        try clear hcz23_2
        try clear hcz23_3
        try clear hcz29_0
        try clear hcz29_1
        try clear hcz29_2
        try clear hcz31_0
        try clear hcz31_1
        try clear hcz31_2
        try clear hcz31_3
        try clear hcz33_0
        try clear hcz33_1
        try clear hcz33_2
        try clear hcz33_3
        try clear hcz37_0
        try clear hcz37_1
        try clear hcz37_2
        try clear hcz39_0
        try clear hcz39_1
        try clear hcz39_2
        try clear hcz39_3
        try clear hcz41_0
        try clear hcz41_1
        try clear hcz41_2
        try clear hcz41_3
        try clear hcz42_0
        try clear hcz42_1
        try clear hcz42_2
        try clear hcz46_0
        try clear hcz46_1
        try clear hcz46_2
        try clear hcz48_0
        try clear hcz48_1
        try clear hcz48_2
        try clear hcz48_3
        try clear hcz4_0
        try clear hcz4_1
        try clear hcz4_2
        try clear hcz4_7
        try clear hcz7_0
        try clear hcz7_1
        try clear hcz7_2
        try clear hcz8_0
        try clear hcz8_1
        try clear hcz8_2
        try clear hcz8_7
        try clear hfz13_0
        try clear hfz13_1
        try clear hfz13_2
        try clear hfz23_0
        try clear hfz23_1
        try clear hfz23_2
        try clear hfz23_3
        try clear hfz29_0
        try clear hfz29_1
        try clear hfz29_2
        try clear hfz31_0
        try clear hfz31_1
        try clear hfz31_2
        try clear hfz31_3
        try clear hfz33_0
        try clear hfz33_1
        try clear hfz33_2
        try clear hfz33_3
        try clear hfz37_0
        try clear hfz37_1
        try clear hfz37_2
        try clear hfz39_0
        try clear hfz39_1
        try clear hfz39_2
        try clear hfz39_3
        try clear hfz41_0
        try clear hfz41_1
        try clear hfz41_2
        try clear hfz41_3
        try clear hfz42_0
        try clear hfz42_1
        try clear hfz42_2
        try clear hfz46_0
        try clear hfz46_1
        try clear hfz46_2
        try clear hfz48_0
        try clear hfz48_1
        try clear hfz48_2
        try clear hfz48_3
        try clear hfz7_0
        try clear hfz7_1
        try clear hfz7_2
        try clear hx315_0
        try clear hx315_1
        try clear hx315_2
        try clear hx315_3
        try clear p2
        try clear p315
        try clear q315
        obtain ⟨kq, x45_16, rfl, HA, HJ16, BK313, BK314, BK316, HB⟩ := hcut
        cases kq with
        | zero => exact absurd HA.out (by simp [spec_SafeYard.j1])
        | succ kj16 =>
          have H := HA.out
          clear HA
          simp only [spec_SafeYard.j1] at H
          by_cases c50 : x45_16 = true
          · subst c50
            rw [if_pos rfl] at H
            obtain rfl := Option.some.inj H
            go_wp2
            go_ret
            exact ⟨by first | rfl | (simp [errW_none, errW_some] <;> rfl) | (simp [*, errW_none, errW_some] <;> rfl), by repeat (first | (with_reducible first | exact HB.out | apply wa | apply wN | apply wd | refine ws ?_ GE313.out | refine ws ?_ GE314.out | refine ws ?_ GE316.out) | exact HB.out)⟩
          replace c50 := Bool.eq_false_iff.mpr c50
          subst c50
          rw [if_neg (show ¬ (false = true) by decide)] at H
          have H' := Aside0.mk H
          clear H
          go_wp2
          go_loopg [6] kj16 (fun kq v6 w' => ∃ (x6_3 : Int), v6 = .int .i64 x6_3 ∧ Aside0 (spec_SafeYard.l1 kq x4_1 x6_3 a0_0 a0_1 a0_2 a0_3 a0_4 a0_5 a0_6 l0_7 a0_8 a0_9 l0_10 a0_11 a0_12 a0_13 a0_14 l0_15 l0_16 l0_17 a0_0 a0_1 a0_2 ((rd_T84 l0_7 x4_1).f0) ((rd_T84 l0_7 x4_1).f1) ((rd_T84 l0_7 x4_1).f2) ((rd_T84 l0_7 x4_1).f3) = some r) ∧ Aside0 (kq ≤ kj16) ∧ Aside0 (w'.heap[gb313]? = some (.cells #[.int .i64 a0_0, .int .i64 a0_1, .string a0_2, .int .i64 a0_3, .int .i64 a0_4, .int .i64 a0_5, .int .i64 a0_6, (.slice (some ad315) l0_7.length c0_7), .int .i64 a0_8, .int .i64 a0_9, (.slice A0_10 l0_10.length c0_10), .int .i64 a0_11, .bool a0_12, .int .i64 a0_13, .int .i64 a0_14, (.slice A0_15 l0_15.length c0_15), (.slice A0_16 l0_16.length c0_16), (.slice A0_17 l0_17.length c0_17)] 39 (0, 0))) ∧ Aside0 (w'.heap[gb314]? = some (.cells #[.int .i64 a0_0, .int .i64 a0_1, .string a0_2] 27 (0, 0))) ∧ Aside0 (w'.heap[gb316]? = some (.cells #[.int .i64 ((rd_T84 l0_7 x4_1).f0), .int .i64 ((rd_T84 l0_7 x4_1).f1), .int .i64 ((rd_T84 l0_7 x4_1).f2), .bool ((rd_T84 l0_7 x4_1).f3)] 84 (0, 0))) ∧ Aside0 (Below w.heap.size w w'))
          case atStart => exact ⟨(0), (by first | rfl | (simp; done) | (simp [*]; done)), H', ⟨Nat.le_refl _⟩, ⟨by (with_reducible repeat first | apply bN | apply bd | apply ba); exact BK313.out⟩, ⟨by (with_reducible repeat first | apply bN | apply bd | apply ba); exact BK314.out⟩, ⟨by (with_reducible repeat first | apply bN | apply bd | apply ba); exact BK316.out⟩, ⟨by repeat (first | (with_reducible first | exact HB.out | apply wa | apply wN | apply wd | refine ws ?_ GE313.out | refine ws ?_ GE314.out | refine ws ?_ GE316.out) | exact HB.out)⟩⟩
          case round =>
            clear H'
            try clear c1
            try clear c2
            try clear c2b0
            try clear c2b1
            try clear p2
            try clear c3
            try clear p3
            try clear q3
            try clear hx3
            try clear c4
            try clear c5
            try clear c6
            try clear c7
            try clear c12
            try clear c15
            try clear c15b0
            try clear c16
            try clear c16b0
            try clear c18
            try clear c20
            try clear c21
            try clear c22
            try clear c25
            try clear c26
            try clear c26b0
            try clear c26b1
            try clear c27
            try clear c28
            try clear c30
            try clear p31
            try clear q31
            try clear hx31
            try clear c35
            try clear c36
            try clear c38
            try clear c44
            try clear c45
            try clear c47
            try clear c50
            try clear hcz10_0
            try clear hcz10_1
            try clear hcz10_2
            try clear hcz10_7
            try clear hcz13_0
            try clear hcz13_1
            try clear hcz13_2
            try clear hcz14_0
            try clear hcz14_1
            try clear hcz14_2
            try clear hcz14_7
            try clear hcz19_0
            try clear hcz19_1
            try clear hcz19_2
            try clear hcz19_7
            try clear hcz23_0
            try clear hcz23_1
            try clear hcz23_2
            try clear hcz23_3
            try clear hcz29_0
            try clear hcz29_1
            try clear hcz29_2
            try clear hcz31_0
            try clear hcz31_1
            try clear hcz31_2
            try clear hcz31_3
            try clear hcz33_0
            try clear hcz33_1
            try clear hcz33_2
            try clear hcz33_3
            try clear hcz37_0
            try clear hcz37_1
            try clear hcz37_2
            try clear hcz39_0
            try clear hcz39_1
            try clear hcz39_2
            try clear hcz39_3
            try clear hcz41_0
            try clear hcz41_1
            try clear hcz41_2
            try clear hcz41_3
            try clear hcz42_0
            try clear hcz42_1
            try clear hcz42_2
            try clear hcz46_0
            try clear hcz46_1
            try clear hcz46_2
            try clear hcz48_0
            try clear hcz48_1
            try clear hcz48_2
            try clear hcz48_3
            try clear hcz4_0
            try clear hcz4_1
            try clear hcz4_2
            try clear hcz4_7
            try clear hcz7_0
            try clear hcz7_1
            try clear hcz7_2
            try clear hcz8_0
            try clear hcz8_1
            try clear hcz8_2
            try clear hcz8_7
            try clear hfz13_0
            try clear hfz13_1
            try clear hfz13_2
            try clear hfz23_0
            try clear hfz23_1
            try clear hfz23_2
            try clear hfz23_3
            try clear hfz29_0
            try clear hfz29_1
            try clear hfz29_2
            try clear hfz31_0
            try clear hfz31_1
            try clear hfz31_2
            try clear hfz31_3
            try clear hfz33_0
            try clear hfz33_1
            try clear hfz33_2
            try clear hfz33_3
            try clear hfz37_0
            try clear hfz37_1
            try clear hfz37_2
            try clear hfz39_0
            try clear hfz39_1
            try clear hfz39_2
            try clear hfz39_3
            try clear hfz41_0
            try clear hfz41_1
            try clear hfz41_2
            try clear hfz41_3
            try clear hfz42_0
            try clear hfz42_1
            try clear hfz42_2
            try clear hfz46_0
            try clear hfz46_1
            try clear hfz46_2
            try clear hfz48_0
            try clear hfz48_1
            try clear hfz48_2
            try clear hfz48_3
            try clear hfz7_0
            try clear hfz7_1
            try clear hfz7_2
            try clear hx315_0
            try clear hx315_1
            try clear hx315_2
            try clear hx315_3
            try clear p2
            try clear p3
            try clear p31
            try clear p315
            try clear q3
            try clear q31
            try clear q315
            obtain ⟨x6_3, rfl, HA, HK3, BK313, BK314, BK316, HB⟩ := hrel
            cases gk with
            | zero => exact absurd HA.out (by simp [spec_SafeYard.l1])
            | succ k3 =>
              have H := HA.out
              clear HA
              simp only [spec_SafeYard.l1] at H
              by_cases c51 : x6_3 < x4_1
              rotate_left
              · rw [if_neg c51] at H
                have c51b0 : decide (x6_3 < x4_1) = false := decide_eq_false c51
                clear c51
                have H' := Aside0.mk H
                clear H
                go_wp2
                go_roundg k3
                case measure => have := HK1.out; have := HJ16.out; have := HK3.out; omega
                case rel => exact ⟨(wrap64 (x4_1 + 1)), (by first | rfl | (simp; done) | (simp [*]; done)), H', ⟨by have := HK1.out; have := HJ16.out; have := HK3.out; omega⟩, ⟨by (with_reducible repeat first | apply bN | apply bd | apply ba); exact BK313.out⟩, ⟨by (with_reducible repeat first | apply bN | apply bd | apply ba); exact BK314.out⟩, ⟨by repeat (first | (with_reducible first | exact HB.out | apply wa | apply wN | apply wd | refine ws ?_ GE313.out | refine ws ?_ GE314.out | refine ws ?_ GE316.out) | exact HB.out)⟩⟩
              rw [if_pos c51] at H
              have c51b0 : decide (x6_3 < x4_1) = true := decide_eq_true c51
              clear c51
              by_cases c52 : 0 ≤ x6_3
              rotate_left
              · rw [if_neg c52] at H
                exact absurd H (by simp)
              rw [if_pos c52] at H
              have c52b0 : decide (0 ≤ x6_3) = true := decide_eq_true c52
              clear c52
              by_cases c53 : x6_3 < (l0_7.length : Int)
              rotate_left
              · rw [if_neg c53] at H
                exact absurd H (by simp)
              rw [if_pos c53] at H
              have c53b0 : decide (x6_3 < (l0_7.length : Int)) = true := decide_eq_true c53
              clear c53
              by_cases c54 : ((rd_T84 l0_7 x6_3).f0) = ((rd_T84 l0_7 x4_1).f0)
              · rw [if_pos c54] at H
                have c54b0 : (((rd_T84 l0_7 x6_3).f0) == ((rd_T84 l0_7 x4_1).f0)) = true := beq_iff_eq.mpr c54
                have c54b1 : (((rd_T84 l0_7 x6_3).f0) != ((rd_T84 l0_7 x4_1).f0)) = false := bne_eq_false_iff_eq.mpr c54
                clear c54
                obtain rfl := Option.some.inj H
                have hnb55 := NB313_314.out
                have hnc55 := NB314_313.out
                have hnb56 := NB313_316.out
                have hnc56 := NB316_313.out
                have hcz57_0 : wr.cell? ⟨gb313, 0, none⟩ = some (.int .i64 a0_0) := (bc BK313.out 0).trans rfl
                have hcz57_1 : wr.cell? ⟨gb313, 1, none⟩ = some (.int .i64 a0_1) := (bc BK313.out 1).trans rfl
                have hcz57_2 : wr.cell? ⟨gb313, 2, none⟩ = some (.string a0_2) := (bc BK313.out 2).trans rfl
                have hcz57_7 : wr.cell? ⟨gb313, 7, none⟩ = some (.slice (some ad315) l0_7.length c0_7) := (bc BK313.out 7).trans rfl
                have p319 : 0 ≤ (x6_3 : Int) := of_decide_eq_true (by first | (with_reducible assumption) | assumption)
                have q319 : x6_3 < (l0_7.length : Int) := of_decide_eq_true (by first | (with_reducible assumption) | assumption)
                obtain ⟨ad319, e319, hx319_0, hx319_1, hx319_2, hx319_3⟩ := at_T84 HR0_7.out x6_3 p319 q319
                obtain rfl : ad315 = ad319 := (by injection e319)
                replace hx319_0 := (HB.out.cell (World.block_lt_of_cell? w _ hx319_0)).trans hx319_0
                replace hx319_1 := (HB.out.cell (World.block_lt_of_cell? w _ hx319_1)).trans hx319_1
                replace hx319_2 := (HB.out.cell (World.block_lt_of_cell? w _ hx319_2)).trans hx319_2
                replace hx319_3 := (HB.out.cell (World.block_lt_of_cell? w _ hx319_3)).trans hx319_3
                replace p319 := eq_true p319
                replace q319 := eq_true q319
                go_wp2_with (first | ((with_reducible refine gate_dst (N := 7) rfl ?_); refine box_event ?hg (N := 7) ?hd (cs := #[.int .i64 0, .int .i64 0, .int .i64 0, .bool false]) (t := 84) ?hr ?_; (case hd => rfl); (case hg => rfl); (case hr => first | (go_simp; done) | (go_simp; rfl)); intro gb320 hg w58 hbox hb; have n0_ := Aside0.mk (bb (g := gb313) (by first | (with_reducible exact BK313.out) | (with_reducible exact bN BK313.out _) | (with_reducible exact bd BK313.out) | ((with_reducible repeat first | apply bN | apply bd | apply ba); exact BK313.out)) hb); have n1_ := Aside0.mk (bb (g := gb314) (by first | (with_reducible exact BK314.out) | (with_reducible exact bN BK314.out _) | (with_reducible exact bd BK314.out) | ((with_reducible repeat first | apply bN | apply bd | apply ba); exact BK314.out)) hb); have n2_ := Aside0.mk (bb (g := gb316) (by first | (with_reducible exact BK316.out) | (with_reducible exact bN BK316.out _) | (with_reducible exact bd BK316.out) | ((with_reducible repeat first | apply bN | apply bd | apply ba); exact BK316.out)) hb); have n3_ := Aside0.mk (below_step (by repeat (first | (with_reducible first | exact HB.out | apply wa | apply wN | apply wd | refine ws ?_ GE313.out | refine ws ?_ GE314.out | refine ws ?_ GE316.out) | exact HB.out)) hb); have n4_ := Aside0.mk (hbox); have n5_ := Aside0.mk ((by rw [hg]; exact (below_size (by repeat (first | (with_reducible first | exact HB.out | apply wa | apply wN | apply wd | refine ws ?_ GE313.out | refine ws ?_ GE314.out | refine ws ?_ GE316.out) | exact HB.out))) : w.heap.size ≤ gb320)); have n6_ := n5_; have n7_ := Aside0.mk ((by rw [hg]; exact Nat.ne_of_lt (blk_lt (g := gb313) (by (with_reducible repeat first | apply bN | apply bd | apply ba); exact BK313.out)) : gb313 ≠ gb320)); have n8_ := Aside0.mk ((by rw [hg]; exact Nat.ne_of_gt (blk_lt (g := gb313) (by (with_reducible repeat first | apply bN | apply bd | apply ba); exact BK313.out)) : gb320 ≠ gb313)); have n9_ := Aside0.mk ((by rw [hg]; exact Nat.ne_of_lt (blk_lt (g := gb314) (by (with_reducible repeat first | apply bN | apply bd | apply ba); exact BK314.out)) : gb314 ≠ gb320)); have n10_ := Aside0.mk ((by rw [hg]; exact Nat.ne_of_gt (blk_lt (g := gb314) (by (with_reducible repeat first | apply bN | apply bd | apply ba); exact BK314.out)) : gb320 ≠ gb314)); have n11_ := Aside0.mk ((by rw [hg]; exact Nat.ne_of_lt (blk_lt (g := gb316) (by (with_reducible repeat first | apply bN | apply bd | apply ba); exact BK316.out)) : gb316 ≠ gb320)); have n12_ := Aside0.mk ((by rw [hg]; exact Nat.ne_of_gt (blk_lt (g := gb316) (by (with_reducible repeat first | apply bN | apply bd | apply ba); exact BK316.out)) : gb320 ≠ gb316)); clear BK313; clear BK314; clear BK316; clear HB; have BK313 := n0_; have BK314 := n1_; have BK316 := n2_; have HB := n3_; have BK320 := n4_; have GW320 := n5_; have GE320 := n6_; have NB313_320 := n7_; have NB320_313 := n8_; have NB314_320 := n9_; have NB320_314 := n10_; have NB316_320 := n11_; have NB320_316 := n12_; clear n0_ n1_ n2_ n3_ n4_ n5_ n6_ n7_ n8_ n9_ n10_ n11_ n12_; clear hb hbox hg; have hnb59 := NB320_313.out; have hnc59 := NB313_320.out; have hnb60 := NB320_314.out; have hnc60 := NB314_320.out; have hnb61 := NB320_316.out; have hnc61 := NB316_320.out; have hcz62_0 : w58.cell? ⟨gb320, 0, none⟩ = some (.int .i64 0) := (bc BK320.out 0).trans rfl; have hcz62_1 : w58.cell? ⟨gb320, 1, none⟩ = some (.int .i64 0) := (bc BK320.out 1).trans rfl; have hcz62_2 : w58.cell? ⟨gb320, 2, none⟩ = some (.int .i64 0) := (bc BK320.out 2).trans rfl; have hcz62_3 : w58.cell? ⟨gb320, 3, none⟩ = some (.bool false) := (bc BK320.out 3).trans rfl; have hfz62_0 := bz BK320.out 0; have hfz62_1 := bz BK320.out 1; have hfz62_2 := bz BK320.out 2; have hfz62_3 := bz BK320.out 3; have hnb63 := NB316_314.out; have hnc63 := NB314_316.out; have hcz64_0 : w58.cell? ⟨gb316, 0, none⟩ = some (.int .i64 ((rd_T84 l0_7 x4_1).f0)) := (bc BK316.out 0).trans rfl; have hcz64_1 : w58.cell? ⟨gb316, 1, none⟩ = some (.int .i64 ((rd_T84 l0_7 x4_1).f1)) := (bc BK316.out 1).trans rfl; have hcz64_2 : w58.cell? ⟨gb316, 2, none⟩ = some (.int .i64 ((rd_T84 l0_7 x4_1).f2)) := (bc BK316.out 2).trans rfl; have hcz64_3 : w58.cell? ⟨gb316, 3, none⟩ = some (.bool ((rd_T84 l0_7 x4_1).f3)) := (bc BK316.out 3).trans rfl; have hfz64_0 := bz BK316.out 0; have hfz64_1 := bz BK316.out 1; have hfz64_2 := bz BK316.out 2; have hfz64_3 := bz BK316.out 3))
                go_ret
                exact ⟨by first | rfl | (simp [errW_none, errW_some] <;> rfl) | (simp [*, errW_none, errW_some] <;> rfl), by repeat (first | (with_reducible first | exact HB.out | apply wa | apply wN | apply wd | refine ws ?_ GE313.out | refine ws ?_ GE314.out | refine ws ?_ GE316.out | refine ws ?_ GE320.out) | exact HB.out)⟩
              rw [if_neg c54] at H
              have c54b0 : (((rd_T84 l0_7 x6_3).f0) == ((rd_T84 l0_7 x4_1).f0)) = false := beq_eq_false_iff_ne.mpr c54
              have c54b1 : (((rd_T84 l0_7 x6_3).f0) != ((rd_T84 l0_7 x4_1).f0)) = true := bne_iff_ne.mpr c54
              by_cases c65 : ((rd_T84 l0_7 x6_3).f1) = ((rd_T84 l0_7 x4_1).f1)
              · rw [if_pos c65] at H
                have c65b0 : (((rd_T84 l0_7 x6_3).f1) == ((rd_T84 l0_7 x4_1).f1)) = true := beq_iff_eq.mpr c65
                have c65b1 : (((rd_T84 l0_7 x6_3).f1) != ((rd_T84 l0_7 x4_1).f1)) = false := bne_eq_false_iff_eq.mpr c65
                clear c65
                obtain rfl := Option.some.inj H
                have hnb66 := NB313_314.out
                have hnc66 := NB314_313.out
                have hnb67 := NB313_316.out
                have hnc67 := NB316_313.out
                have hcz68_0 : wr.cell? ⟨gb313, 0, none⟩ = some (.int .i64 a0_0) := (bc BK313.out 0).trans rfl
                have hcz68_1 : wr.cell? ⟨gb313, 1, none⟩ = some (.int .i64 a0_1) := (bc BK313.out 1).trans rfl
                have hcz68_2 : wr.cell? ⟨gb313, 2, none⟩ = some (.string a0_2) := (bc BK313.out 2).trans rfl
                have hcz68_7 : wr.cell? ⟨gb313, 7, none⟩ = some (.slice (some ad315) l0_7.length c0_7) := (bc BK313.out 7).trans rfl
                have p319 : 0 ≤ (x6_3 : Int) := of_decide_eq_true (by first | (with_reducible assumption) | assumption)
                have q319 : x6_3 < (l0_7.length : Int) := of_decide_eq_true (by first | (with_reducible assumption) | assumption)
                obtain ⟨ad319, e319, hx319_0, hx319_1, hx319_2, hx319_3⟩ := at_T84 HR0_7.out x6_3 p319 q319
                obtain rfl : ad315 = ad319 := (by injection e319)
                replace hx319_0 := (HB.out.cell (World.block_lt_of_cell? w _ hx319_0)).trans hx319_0
                replace hx319_1 := (HB.out.cell (World.block_lt_of_cell? w _ hx319_1)).trans hx319_1
                replace hx319_2 := (HB.out.cell (World.block_lt_of_cell? w _ hx319_2)).trans hx319_2
                replace hx319_3 := (HB.out.cell (World.block_lt_of_cell? w _ hx319_3)).trans hx319_3
                replace p319 := eq_true p319
                replace q319 := eq_true q319
                go_wp2_with (first | ((with_reducible refine gate_dst (N := 7) rfl ?_); refine box_event ?hg (N := 7) ?hd (cs := #[.int .i64 0, .int .i64 0, .int .i64 0, .bool false]) (t := 84) ?hr ?_; (case hd => rfl); (case hg => rfl); (case hr => first | (go_simp; done) | (go_simp; rfl)); intro gb320 hg w69 hbox hb; have n0_ := Aside0.mk (bb (g := gb313) (by first | (with_reducible exact BK313.out) | (with_reducible exact bN BK313.out _) | (with_reducible exact bd BK313.out) | ((with_reducible repeat first | apply bN | apply bd | apply ba); exact BK313.out)) hb); have n1_ := Aside0.mk (bb (g := gb314) (by first | (with_reducible exact BK314.out) | (with_reducible exact bN BK314.out _) | (with_reducible exact bd BK314.out) | ((with_reducible repeat first | apply bN | apply bd | apply ba); exact BK314.out)) hb); have n2_ := Aside0.mk (bb (g := gb316) (by first | (with_reducible exact BK316.out) | (with_reducible exact bN BK316.out _) | (with_reducible exact bd BK316.out) | ((with_reducible repeat first | apply bN | apply bd | apply ba); exact BK316.out)) hb); have n3_ := Aside0.mk (below_step (by repeat (first | (with_reducible first | exact HB.out | apply wa | apply wN | apply wd | refine ws ?_ GE313.out | refine ws ?_ GE314.out | refine ws ?_ GE316.out) | exact HB.out)) hb); have n4_ := Aside0.mk (hbox); have n5_ := Aside0.mk ((by rw [hg]; exact (below_size (by repeat (first | (with_reducible first | exact HB.out | apply wa | apply wN | apply wd | refine ws ?_ GE313.out | refine ws ?_ GE314.out | refine ws ?_ GE316.out) | exact HB.out))) : w.heap.size ≤ gb320)); have n6_ := n5_; have n7_ := Aside0.mk ((by rw [hg]; exact Nat.ne_of_lt (blk_lt (g := gb313) (by (with_reducible repeat first | apply bN | apply bd | apply ba); exact BK313.out)) : gb313 ≠ gb320)); have n8_ := Aside0.mk ((by rw [hg]; exact Nat.ne_of_gt (blk_lt (g := gb313) (by (with_reducible repeat first | apply bN | apply bd | apply ba); exact BK313.out)) : gb320 ≠ gb313)); have n9_ := Aside0.mk ((by rw [hg]; exact Nat.ne_of_lt (blk_lt (g := gb314) (by (with_reducible repeat first | apply bN | apply bd | apply ba); exact BK314.out)) : gb314 ≠ gb320)); have n10_ := Aside0.mk ((by rw [hg]; exact Nat.ne_of_gt (blk_lt (g := gb314) (by (with_reducible repeat first | apply bN | apply bd | apply ba); exact BK314.out)) : gb320 ≠ gb314)); have n11_ := Aside0.mk ((by rw [hg]; exact Nat.ne_of_lt (blk_lt (g := gb316) (by (with_reducible repeat first | apply bN | apply bd | apply ba); exact BK316.out)) : gb316 ≠ gb320)); have n12_ := Aside0.mk ((by rw [hg]; exact Nat.ne_of_gt (blk_lt (g := gb316) (by (with_reducible repeat first | apply bN | apply bd | apply ba); exact BK316.out)) : gb320 ≠ gb316)); clear BK313; clear BK314; clear BK316; clear HB; have BK313 := n0_; have BK314 := n1_; have BK316 := n2_; have HB := n3_; have BK320 := n4_; have GW320 := n5_; have GE320 := n6_; have NB313_320 := n7_; have NB320_313 := n8_; have NB314_320 := n9_; have NB320_314 := n10_; have NB316_320 := n11_; have NB320_316 := n12_; clear n0_ n1_ n2_ n3_ n4_ n5_ n6_ n7_ n8_ n9_ n10_ n11_ n12_; clear hb hbox hg; have hnb70 := NB320_313.out; have hnc70 := NB313_320.out; have hnb71 := NB320_314.out; have hnc71 := NB314_320.out; have hnb72 := NB320_316.out; have hnc72 := NB316_320.out; have hcz73_0 : w69.cell? ⟨gb320, 0, none⟩ = some (.int .i64 0) := (bc BK320.out 0).trans rfl; have hcz73_1 : w69.cell? ⟨gb320, 1, none⟩ = some (.int .i64 0) := (bc BK320.out 1).trans rfl; have hcz73_2 : w69.cell? ⟨gb320, 2, none⟩ = some (.int .i64 0) := (bc BK320.out 2).trans rfl; have hcz73_3 : w69.cell? ⟨gb320, 3, none⟩ = some (.bool false) := (bc BK320.out 3).trans rfl; have hfz73_0 := bz BK320.out 0; have hfz73_1 := bz BK320.out 1; have hfz73_2 := bz BK320.out 2; have hfz73_3 := bz BK320.out 3; have hnb74 := NB316_314.out; have hnc74 := NB314_316.out; have hcz75_0 : w69.cell? ⟨gb316, 0, none⟩ = some (.int .i64 ((rd_T84 l0_7 x4_1).f0)) := (bc BK316.out 0).trans rfl; have hcz75_1 : w69.cell? ⟨gb316, 1, none⟩ = some (.int .i64 ((rd_T84 l0_7 x4_1).f1)) := (bc BK316.out 1).trans rfl; have hcz75_2 : w69.cell? ⟨gb316, 2, none⟩ = some (.int .i64 ((rd_T84 l0_7 x4_1).f2)) := (bc BK316.out 2).trans rfl; have hcz75_3 : w69.cell? ⟨gb316, 3, none⟩ = some (.bool ((rd_T84 l0_7 x4_1).f3)) := (bc BK316.out 3).trans rfl; have hfz75_0 := bz BK316.out 0; have hfz75_1 := bz BK316.out 1; have hfz75_2 := bz BK316.out 2; have hfz75_3 := bz BK316.out 3))
                go_ret
                exact ⟨by first | rfl | (simp [errW_none, errW_some] <;> rfl) | (simp [*, errW_none, errW_some] <;> rfl), by repeat (first | (with_reducible first | exact HB.out | apply wa | apply wN | apply wd | refine ws ?_ GE313.out | refine ws ?_ GE314.out | refine ws ?_ GE316.out | refine ws ?_ GE320.out) | exact HB.out)⟩
              rw [if_neg c65] at H
              have c65b0 : (((rd_T84 l0_7 x6_3).f1) == ((rd_T84 l0_7 x4_1).f1)) = false := beq_eq_false_iff_ne.mpr c65
              have c65b1 : (((rd_T84 l0_7 x6_3).f1) != ((rd_T84 l0_7 x4_1).f1)) = true := bne_iff_ne.mpr c65
              by_cases c76 : ((rd_T84 l0_7 x6_3).f1) = ((rd_T84 l0_7 x4_1).f2)
              · rw [if_pos c76] at H
                have c76b0 : (((rd_T84 l0_7 x6_3).f1) == ((rd_T84 l0_7 x4_1).f2)) = true := beq_iff_eq.mpr c76
                have c76b1 : (((rd_T84 l0_7 x6_3).f1) != ((rd_T84 l0_7 x4_1).f2)) = false := bne_eq_false_iff_eq.mpr c76
                clear c76
                obtain rfl := Option.some.inj H
                have hnb77 := NB313_314.out
                have hnc77 := NB314_313.out
                have hnb78 := NB313_316.out
                have hnc78 := NB316_313.out
                have hcz79_0 : wr.cell? ⟨gb313, 0, none⟩ = some (.int .i64 a0_0) := (bc BK313.out 0).trans rfl
                have hcz79_1 : wr.cell? ⟨gb313, 1, none⟩ = some (.int .i64 a0_1) := (bc BK313.out 1).trans rfl
                have hcz79_2 : wr.cell? ⟨gb313, 2, none⟩ = some (.string a0_2) := (bc BK313.out 2).trans rfl
                have hcz79_7 : wr.cell? ⟨gb313, 7, none⟩ = some (.slice (some ad315) l0_7.length c0_7) := (bc BK313.out 7).trans rfl
                have p319 : 0 ≤ (x6_3 : Int) := of_decide_eq_true (by first | (with_reducible assumption) | assumption)
                have q319 : x6_3 < (l0_7.length : Int) := of_decide_eq_true (by first | (with_reducible assumption) | assumption)
                obtain ⟨ad319, e319, hx319_0, hx319_1, hx319_2, hx319_3⟩ := at_T84 HR0_7.out x6_3 p319 q319
                obtain rfl : ad315 = ad319 := (by injection e319)
                replace hx319_0 := (HB.out.cell (World.block_lt_of_cell? w _ hx319_0)).trans hx319_0
                replace hx319_1 := (HB.out.cell (World.block_lt_of_cell? w _ hx319_1)).trans hx319_1
                replace hx319_2 := (HB.out.cell (World.block_lt_of_cell? w _ hx319_2)).trans hx319_2
                replace hx319_3 := (HB.out.cell (World.block_lt_of_cell? w _ hx319_3)).trans hx319_3
                replace p319 := eq_true p319
                replace q319 := eq_true q319
                go_wp2_with (first | ((with_reducible refine gate_dst (N := 7) rfl ?_); refine box_event ?hg (N := 7) ?hd (cs := #[.int .i64 0, .int .i64 0, .int .i64 0, .bool false]) (t := 84) ?hr ?_; (case hd => rfl); (case hg => rfl); (case hr => first | (go_simp; done) | (go_simp; rfl)); intro gb320 hg w80 hbox hb; have n0_ := Aside0.mk (bb (g := gb313) (by first | (with_reducible exact BK313.out) | (with_reducible exact bN BK313.out _) | (with_reducible exact bd BK313.out) | ((with_reducible repeat first | apply bN | apply bd | apply ba); exact BK313.out)) hb); have n1_ := Aside0.mk (bb (g := gb314) (by first | (with_reducible exact BK314.out) | (with_reducible exact bN BK314.out _) | (with_reducible exact bd BK314.out) | ((with_reducible repeat first | apply bN | apply bd | apply ba); exact BK314.out)) hb); have n2_ := Aside0.mk (bb (g := gb316) (by first | (with_reducible exact BK316.out) | (with_reducible exact bN BK316.out _) | (with_reducible exact bd BK316.out) | ((with_reducible repeat first | apply bN | apply bd | apply ba); exact BK316.out)) hb); have n3_ := Aside0.mk (below_step (by repeat (first | (with_reducible first | exact HB.out | apply wa | apply wN | apply wd | refine ws ?_ GE313.out | refine ws ?_ GE314.out | refine ws ?_ GE316.out) | exact HB.out)) hb); have n4_ := Aside0.mk (hbox); have n5_ := Aside0.mk ((by rw [hg]; exact (below_size (by repeat (first | (with_reducible first | exact HB.out | apply wa | apply wN | apply wd | refine ws ?_ GE313.out | refine ws ?_ GE314.out | refine ws ?_ GE316.out) | exact HB.out))) : w.heap.size ≤ gb320)); have n6_ := n5_; have n7_ := Aside0.mk ((by rw [hg]; exact Nat.ne_of_lt (blk_lt (g := gb313) (by (with_reducible repeat first | apply bN | apply bd | apply ba); exact BK313.out)) : gb313 ≠ gb320)); have n8_ := Aside0.mk ((by rw [hg]; exact Nat.ne_of_gt (blk_lt (g := gb313) (by (with_reducible repeat first | apply bN | apply bd | apply ba); exact BK313.out)) : gb320 ≠ gb313)); have n9_ := Aside0.mk ((by rw [hg]; exact Nat.ne_of_lt (blk_lt (g := gb314) (by (with_reducible repeat first | apply bN | apply bd | apply ba); exact BK314.out)) : gb314 ≠ gb320)); have n10_ := Aside0.mk ((by rw [hg]; exact Nat.ne_of_gt (blk_lt (g := gb314) (by (with_reducible repeat first | apply bN | apply bd | apply ba); exact BK314.out)) : gb320 ≠ gb314)); have n11_ := Aside0.mk ((by rw [hg]; exact Nat.ne_of_lt (blk_lt (g := gb316) (by (with_reducible repeat first | apply bN | apply bd | apply ba); exact BK316.out)) : gb316 ≠ gb320)); have n12_ := Aside0.mk ((by rw [hg]; exact Nat.ne_of_gt (blk_lt (g := gb316) (by (with_reducible repeat first | apply bN | apply bd | apply ba); exact BK316.out)) : gb320 ≠ gb316)); clear BK313; clear BK314; clear BK316; clear HB; have BK313 := n0_; have BK314 := n1_; have BK316 := n2_; have HB := n3_; have BK320 := n4_; have GW320 := n5_; have GE320 := n6_; have NB313_320 := n7_; have NB320_313 := n8_; have NB314_320 := n9_; have NB320_314 := n10_; have NB316_320 := n11_; have NB320_316 := n12_; clear n0_ n1_ n2_ n3_ n4_ n5_ n6_ n7_ n8_ n9_ n10_ n11_ n12_; clear hb hbox hg; have hnb81 := NB320_313.out; have hnc81 := NB313_320.out; have hnb82 := NB320_314.out; have hnc82 := NB314_320.out; have hnb83 := NB320_316.out; have hnc83 := NB316_320.out; have hcz84_0 : w80.cell? ⟨gb320, 0, none⟩ = some (.int .i64 0) := (bc BK320.out 0).trans rfl; have hcz84_1 : w80.cell? ⟨gb320, 1, none⟩ = some (.int .i64 0) := (bc BK320.out 1).trans rfl; have hcz84_2 : w80.cell? ⟨gb320, 2, none⟩ = some (.int .i64 0) := (bc BK320.out 2).trans rfl; have hcz84_3 : w80.cell? ⟨gb320, 3, none⟩ = some (.bool false) := (bc BK320.out 3).trans rfl; have hfz84_0 := bz BK320.out 0; have hfz84_1 := bz BK320.out 1; have hfz84_2 := bz BK320.out 2; have hfz84_3 := bz BK320.out 3; have hnb85 := NB316_314.out; have hnc85 := NB314_316.out; have hcz86_0 : w80.cell? ⟨gb316, 0, none⟩ = some (.int .i64 ((rd_T84 l0_7 x4_1).f0)) := (bc BK316.out 0).trans rfl; have hcz86_1 : w80.cell? ⟨gb316, 1, none⟩ = some (.int .i64 ((rd_T84 l0_7 x4_1).f1)) := (bc BK316.out 1).trans rfl; have hcz86_2 : w80.cell? ⟨gb316, 2, none⟩ = some (.int .i64 ((rd_T84 l0_7 x4_1).f2)) := (bc BK316.out 2).trans rfl; have hcz86_3 : w80.cell? ⟨gb316, 3, none⟩ = some (.bool ((rd_T84 l0_7 x4_1).f3)) := (bc BK316.out 3).trans rfl; have hfz86_0 := bz BK316.out 0; have hfz86_1 := bz BK316.out 1; have hfz86_2 := bz BK316.out 2; have hfz86_3 := bz BK316.out 3))
                go_ret
                exact ⟨by first | rfl | (simp [errW_none, errW_some] <;> rfl) | (simp [*, errW_none, errW_some] <;> rfl), by repeat (first | (with_reducible first | exact HB.out | apply wa | apply wN | apply wd | refine ws ?_ GE313.out | refine ws ?_ GE314.out | refine ws ?_ GE316.out | refine ws ?_ GE320.out) | exact HB.out)⟩
              rw [if_neg c76] at H
              have c76b0 : (((rd_T84 l0_7 x6_3).f1) == ((rd_T84 l0_7 x4_1).f2)) = false := beq_eq_false_iff_ne.mpr c76
              have c76b1 : (((rd_T84 l0_7 x6_3).f1) != ((rd_T84 l0_7 x4_1).f2)) = true := bne_iff_ne.mpr c76
              by_cases c87 : ((rd_T84 l0_7 x6_3).f2) = ((rd_T84 l0_7 x4_1).f1)
              · rw [if_pos c87] at H
                have c87b0 : (((rd_T84 l0_7 x6_3).f2) == ((rd_T84 l0_7 x4_1).f1)) = true := beq_iff_eq.mpr c87
                have c87b1 : (((rd_T84 l0_7 x6_3).f2) != ((rd_T84 l0_7 x4_1).f1)) = false := bne_eq_false_iff_eq.mpr c87
                clear c87
                obtain rfl := Option.some.inj H
                have hnb88 := NB313_314.out
                have hnc88 := NB314_313.out
                have hnb89 := NB313_316.out
                have hnc89 := NB316_313.out
                have hcz90_0 : wr.cell? ⟨gb313, 0, none⟩ = some (.int .i64 a0_0) := (bc BK313.out 0).trans rfl
                have hcz90_1 : wr.cell? ⟨gb313, 1, none⟩ = some (.int .i64 a0_1) := (bc BK313.out 1).trans rfl
                have hcz90_2 : wr.cell? ⟨gb313, 2, none⟩ = some (.string a0_2) := (bc BK313.out 2).trans rfl
                have hcz90_7 : wr.cell? ⟨gb313, 7, none⟩ = some (.slice (some ad315) l0_7.length c0_7) := (bc BK313.out 7).trans rfl
                have p319 : 0 ≤ (x6_3 : Int) := of_decide_eq_true (by first | (with_reducible assumption) | assumption)
                have q319 : x6_3 < (l0_7.length : Int) := of_decide_eq_true (by first | (with_reducible assumption) | assumption)
                obtain ⟨ad319, e319, hx319_0, hx319_1, hx319_2, hx319_3⟩ := at_T84 HR0_7.out x6_3 p319 q319
                obtain rfl : ad315 = ad319 := (by injection e319)
                replace hx319_0 := (HB.out.cell (World.block_lt_of_cell? w _ hx319_0)).trans hx319_0
                replace hx319_1 := (HB.out.cell (World.block_lt_of_cell? w _ hx319_1)).trans hx319_1
                replace hx319_2 := (HB.out.cell (World.block_lt_of_cell? w _ hx319_2)).trans hx319_2
                replace hx319_3 := (HB.out.cell (World.block_lt_of_cell? w _ hx319_3)).trans hx319_3
                replace p319 := eq_true p319
                replace q319 := eq_true q319
                go_wp2_with (first | ((with_reducible refine gate_dst (N := 7) rfl ?_); refine box_event ?hg (N := 7) ?hd (cs := #[.int .i64 0, .int .i64 0, .int .i64 0, .bool false]) (t := 84) ?hr ?_; (case hd => rfl); (case hg => rfl); (case hr => first | (go_simp; done) | (go_simp; rfl)); intro gb320 hg w91 hbox hb; have n0_ := Aside0.mk (bb (g := gb313) (by first | (with_reducible exact BK313.out) | (with_reducible exact bN BK313.out _) | (with_reducible exact bd BK313.out) | ((with_reducible repeat first | apply bN | apply bd | apply ba); exact BK313.out)) hb); have n1_ := Aside0.mk (bb (g := gb314) (by first | (with_reducible exact BK314.out) | (with_reducible exact bN BK314.out _) | (with_reducible exact bd BK314.out) | ((with_reducible repeat first | apply bN | apply bd | apply ba); exact BK314.out)) hb); have n2_ := Aside0.mk (bb (g := gb316) (by first | (with_reducible exact BK316.out) | (with_reducible exact bN BK316.out _) | (with_reducible exact bd BK316.out) | ((with_reducible repeat first | apply bN | apply bd | apply ba); exact BK316.out)) hb); have n3_ := Aside0.mk (below_step (by repeat (first | (with_reducible first | exact HB.out | apply wa | apply wN | apply wd | refine ws ?_ GE313.out | refine ws ?_ GE314.out | refine ws ?_ GE316.out) | exact HB.out)) hb); have n4_ := Aside0.mk (hbox); have n5_ := Aside0.mk ((by rw [hg]; exact (below_size (by repeat (first | (with_reducible first | exact HB.out | apply wa | apply wN | apply wd | refine ws ?_ GE313.out | refine ws ?_ GE314.out | refine ws ?_ GE316.out) | exact HB.out))) : w.heap.size ≤ gb320)); have n6_ := n5_; have n7_ := Aside0.mk ((by rw [hg]; exact Nat.ne_of_lt (blk_lt (g := gb313) (by (with_reducible repeat first | apply bN | apply bd | apply ba); exact BK313.out)) : gb313 ≠ gb320)); have n8_ := Aside0.mk ((by rw [hg]; exact Nat.ne_of_gt (blk_lt (g := gb313) (by (with_reducible repeat first | apply bN | apply bd | apply ba); exact BK313.out)) : gb320 ≠ gb313)); have n9_ := Aside0.mk ((by rw [hg]; exact Nat.ne_of_lt (blk_lt (g := gb314) (by (with_reducible repeat first | apply bN | apply bd | apply ba); exact BK314.out)) : gb314 ≠ gb320)); have n10_ := Aside0.mk ((by rw [hg]; exact Nat.ne_of_gt (blk_lt (g := gb314) (by (with_reducible repeat first | apply bN | apply bd | apply ba); exact BK314.out)) : gb320 ≠ gb314)); have n11_ := Aside0.mk ((by rw [hg]; exact Nat.ne_of_lt (blk_lt (g := gb316) (by (with_reducible repeat first | apply bN | apply bd | apply ba); exact BK316.out)) : gb316 ≠ gb320)); have n12_ := Aside0.mk ((by rw [hg]; exact Nat.ne_of_gt (blk_lt (g := gb316) (by (with_reducible repeat first | apply bN | apply bd | apply ba); exact BK316.out)) : gb320 ≠ gb316)); clear BK313; clear BK314; clear BK316; clear HB; have BK313 := n0_; have BK314 := n1_; have BK316 := n2_; have HB := n3_; have BK320 := n4_; have GW320 := n5_; have GE320 := n6_; have NB313_320 := n7_; have NB320_313 := n8_; have NB314_320 := n9_; have NB320_314 := n10_; have NB316_320 := n11_; have NB320_316 := n12_; clear n0_ n1_ n2_ n3_ n4_ n5_ n6_ n7_ n8_ n9_ n10_ n11_ n12_; clear hb hbox hg; have hnb92 := NB320_313.out; have hnc92 := NB313_320.out; have hnb93 := NB320_314.out; have hnc93 := NB314_320.out; have hnb94 := NB320_316.out; have hnc94 := NB316_320.out; have hcz95_0 : w91.cell? ⟨gb320, 0, none⟩ = some (.int .i64 0) := (bc BK320.out 0).trans rfl; have hcz95_1 : w91.cell? ⟨gb320, 1, none⟩ = some (.int .i64 0) := (bc BK320.out 1).trans rfl; have hcz95_2 : w91.cell? ⟨gb320, 2, none⟩ = some (.int .i64 0) := (bc BK320.out 2).trans rfl; have hcz95_3 : w91.cell? ⟨gb320, 3, none⟩ = some (.bool false) := (bc BK320.out 3).trans rfl; have hfz95_0 := bz BK320.out 0; have hfz95_1 := bz BK320.out 1; have hfz95_2 := bz BK320.out 2; have hfz95_3 := bz BK320.out 3; have hnb96 := NB316_314.out; have hnc96 := NB314_316.out; have hcz97_0 : w91.cell? ⟨gb316, 0, none⟩ = some (.int .i64 ((rd_T84 l0_7 x4_1).f0)) := (bc BK316.out 0).trans rfl; have hcz97_1 : w91.cell? ⟨gb316, 1, none⟩ = some (.int .i64 ((rd_T84 l0_7 x4_1).f1)) := (bc BK316.out 1).trans rfl; have hcz97_2 : w91.cell? ⟨gb316, 2, none⟩ = some (.int .i64 ((rd_T84 l0_7 x4_1).f2)) := (bc BK316.out 2).trans rfl; have hcz97_3 : w91.cell? ⟨gb316, 3, none⟩ = some (.bool ((rd_T84 l0_7 x4_1).f3)) := (bc BK316.out 3).trans rfl; have hfz97_0 := bz BK316.out 0; have hfz97_1 := bz BK316.out 1; have hfz97_2 := bz BK316.out 2; have hfz97_3 := bz BK316.out 3))
                go_ret
                exact ⟨by first | rfl | (simp [errW_none, errW_some] <;> rfl) | (simp [*, errW_none, errW_some] <;> rfl), by repeat (first | (with_reducible first | exact HB.out | apply wa | apply wN | apply wd | refine ws ?_ GE313.out | refine ws ?_ GE314.out | refine ws ?_ GE316.out | refine ws ?_ GE320.out) | exact HB.out)⟩
              rw [if_neg c87] at H
              have c87b0 : (((rd_T84 l0_7 x6_3).f2) == ((rd_T84 l0_7 x4_1).f1)) = false := beq_eq_false_iff_ne.mpr c87
              have c87b1 : (((rd_T84 l0_7 x6_3).f2) != ((rd_T84 l0_7 x4_1).f1)) = true := bne_iff_ne.mpr c87
              by_cases c98 : ((rd_T84 l0_7 x6_3).f2) ≥ 0
              rotate_left
              · rw [if_neg c98] at H
                have c98b0 : decide (0 ≤ ((rd_T84 l0_7 x6_3).f2)) = false := decide_eq_false c98
                clear c98
                have H' := Aside0.mk H
                clear H
                have hnb120 := NB313_314.out
                have hnc120 := NB314_313.out
                have hnb121 := NB313_316.out
                have hnc121 := NB316_313.out
                have hcz122_0 : wr.cell? ⟨gb313, 0, none⟩ = some (.int .i64 a0_0) := (bc BK313.out 0).trans rfl
                have hcz122_1 : wr.cell? ⟨gb313, 1, none⟩ = some (.int .i64 a0_1) := (bc BK313.out 1).trans rfl
                have hcz122_2 : wr.cell? ⟨gb313, 2, none⟩ = some (.string a0_2) := (bc BK313.out 2).trans rfl
                have hcz122_7 : wr.cell? ⟨gb313, 7, none⟩ = some (.slice (some ad315) l0_7.length c0_7) := (bc BK313.out 7).trans rfl
                have p319 : 0 ≤ (x6_3 : Int) := of_decide_eq_true (by first | (with_reducible assumption) | assumption)
                have q319 : x6_3 < (l0_7.length : Int) := of_decide_eq_true (by first | (with_reducible assumption) | assumption)
                obtain ⟨ad319, e319, hx319_0, hx319_1, hx319_2, hx319_3⟩ := at_T84 HR0_7.out x6_3 p319 q319
                obtain rfl : ad315 = ad319 := (by injection e319)
                replace hx319_0 := (HB.out.cell (World.block_lt_of_cell? w _ hx319_0)).trans hx319_0
                replace hx319_1 := (HB.out.cell (World.block_lt_of_cell? w _ hx319_1)).trans hx319_1
                replace hx319_2 := (HB.out.cell (World.block_lt_of_cell? w _ hx319_2)).trans hx319_2
                replace hx319_3 := (HB.out.cell (World.block_lt_of_cell? w _ hx319_3)).trans hx319_3
                replace p319 := eq_true p319
                replace q319 := eq_true q319
                go_wp2_with (first | ((with_reducible refine gate_dst (N := 7) rfl ?_); refine box_event ?hg (N := 7) ?hd (cs := #[.int .i64 0, .int .i64 0, .int .i64 0, .bool false]) (t := 84) ?hr ?_; (case hd => rfl); (case hg => rfl); (case hr => first | (go_simp; done) | (go_simp; rfl)); intro gb320 hg w123 hbox hb; have n0_ := Aside0.mk (bb (g := gb313) (by first | (with_reducible exact BK313.out) | (with_reducible exact bN BK313.out _) | (with_reducible exact bd BK313.out) | ((with_reducible repeat first | apply bN | apply bd | apply ba); exact BK313.out)) hb); have n1_ := Aside0.mk (bb (g := gb314) (by first | (with_reducible exact BK314.out) | (with_reducible exact bN BK314.out _) | (with_reducible exact bd BK314.out) | ((with_reducible repeat first | apply bN | apply bd | apply ba); exact BK314.out)) hb); have n2_ := Aside0.mk (bb (g := gb316) (by first | (with_reducible exact BK316.out) | (with_reducible exact bN BK316.out _) | (with_reducible exact bd BK316.out) | ((with_reducible repeat first | apply bN | apply bd | apply ba); exact BK316.out)) hb); have n3_ := Aside0.mk (below_step (by repeat (first | (with_reducible first | exact HB.out | apply wa | apply wN | apply wd | refine ws ?_ GE313.out | refine ws ?_ GE314.out | refine ws ?_ GE316.out) | exact HB.out)) hb); have n4_ := Aside0.mk (hbox); have n5_ := Aside0.mk ((by rw [hg]; exact (below_size (by repeat (first | (with_reducible first | exact HB.out | apply wa | apply wN | apply wd | refine ws ?_ GE313.out | refine ws ?_ GE314.out | refine ws ?_ GE316.out) | exact HB.out))) : w.heap.size ≤ gb320)); have n6_ := n5_; have n7_ := Aside0.mk ((by rw [hg]; exact Nat.ne_of_lt (blk_lt (g := gb313) (by (with_reducible repeat first | apply bN | apply bd | apply ba); exact BK313.out)) : gb313 ≠ gb320)); have n8_ := Aside0.mk ((by rw [hg]; exact Nat.ne_of_gt (blk_lt (g := gb313) (by (with_reducible repeat first | apply bN | apply bd | apply ba); exact BK313.out)) : gb320 ≠ gb313)); have n9_ := Aside0.mk ((by rw [hg]; exact Nat.ne_of_lt (blk_lt (g := gb314) (by (with_reducible repeat first | apply bN | apply bd | apply ba); exact BK314.out)) : gb314 ≠ gb320)); have n10_ := Aside0.mk ((by rw [hg]; exact Nat.ne_of_gt (blk_lt (g := gb314) (by (with_reducible repeat first | apply bN | apply bd | apply ba); exact BK314.out)) : gb320 ≠ gb314)); have n11_ := Aside0.mk ((by rw [hg]; exact Nat.ne_of_lt (blk_lt (g := gb316) (by (with_reducible repeat first | apply bN | apply bd | apply ba); exact BK316.out)) : gb316 ≠ gb320)); have n12_ := Aside0.mk ((by rw [hg]; exact Nat.ne_of_gt (blk_lt (g := gb316) (by (with_reducible repeat first | apply bN | apply bd | apply ba); exact BK316.out)) : gb320 ≠ gb316)); clear BK313; clear BK314; clear BK316; clear HB; have BK313 := n0_; have BK314 := n1_; have BK316 := n2_; have HB := n3_; have BK320 := n4_; have GW320 := n5_; have GE320 := n6_; have NB313_320 := n7_; have NB320_313 := n8_; have NB314_320 := n9_; have NB320_314 := n10_; have NB316_320 := n11_; have NB320_316 := n12_; clear n0_ n1_ n2_ n3_ n4_ n5_ n6_ n7_ n8_ n9_ n10_ n11_ n12_; clear hb hbox hg; have hnb124 := NB320_313.out; have hnc124 := NB313_320.out; have hnb125 := NB320_314.out; have hnc125 := NB314_320.out; have hnb126 := NB320_316.out; have hnc126 := NB316_320.out; have hcz127_0 : w123.cell? ⟨gb320, 0, none⟩ = some (.int .i64 0) := (bc BK320.out 0).trans rfl; have hcz127_1 : w123.cell? ⟨gb320, 1, none⟩ = some (.int .i64 0) := (bc BK320.out 1).trans rfl; have hcz127_2 : w123.cell? ⟨gb320, 2, none⟩ = some (.int .i64 0) := (bc BK320.out 2).trans rfl; have hcz127_3 : w123.cell? ⟨gb320, 3, none⟩ = some (.bool false) := (bc BK320.out 3).trans rfl; have hfz127_0 := bz BK320.out 0; have hfz127_1 := bz BK320.out 1; have hfz127_2 := bz BK320.out 2; have hfz127_3 := bz BK320.out 3; have hnb128 := NB316_314.out; have hnc128 := NB314_316.out; have hcz129_0 : w123.cell? ⟨gb316, 0, none⟩ = some (.int .i64 ((rd_T84 l0_7 x4_1).f0)) := (bc BK316.out 0).trans rfl; have hcz129_1 : w123.cell? ⟨gb316, 1, none⟩ = some (.int .i64 ((rd_T84 l0_7 x4_1).f1)) := (bc BK316.out 1).trans rfl; have hcz129_2 : w123.cell? ⟨gb316, 2, none⟩ = some (.int .i64 ((rd_T84 l0_7 x4_1).f2)) := (bc BK316.out 2).trans rfl; have hcz129_3 : w123.cell? ⟨gb316, 3, none⟩ = some (.bool ((rd_T84 l0_7 x4_1).f3)) := (bc BK316.out 3).trans rfl; have hfz129_0 := bz BK316.out 0; have hfz129_1 := bz BK316.out 1; have hfz129_2 := bz BK316.out 2; have hfz129_3 := bz BK316.out 3))
                go_roundg k3
                case measure => have := HK1.out; have := HJ16.out; have := HK3.out; omega
                case rel => exact ⟨(wrap64 (x6_3 + 1)), (by first | rfl | (simp; done) | (simp [*]; done)), H', ⟨by have := HK1.out; have := HJ16.out; have := HK3.out; omega⟩, ⟨by (with_reducible repeat first | apply bN | apply bd | apply ba); refine blk_far ?_ NB313_320.out _; (with_reducible repeat first | apply bN | apply bd | apply ba); refine blk_far ?_ NB313_320.out _; (with_reducible repeat first | apply bN | apply bd | apply ba); refine blk_far ?_ NB313_320.out _; (with_reducible repeat first | apply bN | apply bd | apply ba); refine blk_far ?_ NB313_320.out _; (with_reducible repeat first | apply bN | apply bd | apply ba); exact BK313.out⟩, ⟨by (with_reducible repeat first | apply bN | apply bd | apply ba); refine blk_far ?_ NB314_320.out _; (with_reducible repeat first | apply bN | apply bd | apply ba); refine blk_far ?_ NB314_320.out _; (with_reducible repeat first | apply bN | apply bd | apply ba); refine blk_far ?_ NB314_320.out _; (with_reducible repeat first | apply bN | apply bd | apply ba); refine blk_far ?_ NB314_320.out _; (with_reducible repeat first | apply bN | apply bd | apply ba); exact BK314.out⟩, ⟨by (with_reducible repeat first | apply bN | apply bd | apply ba); refine blk_far ?_ NB316_320.out _; (with_reducible repeat first | apply bN | apply bd | apply ba); refine blk_far ?_ NB316_320.out _; (with_reducible repeat first | apply bN | apply bd | apply ba); refine blk_far ?_ NB316_320.out _; (with_reducible repeat first | apply bN | apply bd | apply ba); refine blk_far ?_ NB316_320.out _; (with_reducible repeat first | apply bN | apply bd | apply ba); exact BK316.out⟩, ⟨by repeat (first | (with_reducible first | exact HB.out | apply wa | apply wN | apply wd | refine ws ?_ GE313.out | refine ws ?_ GE314.out | refine ws ?_ GE316.out | refine ws ?_ GE320.out) | exact HB.out)⟩⟩
              rw [if_pos c98] at H
              have c98b0 : decide (0 ≤ ((rd_T84 l0_7 x6_3).f2)) = true := decide_eq_true c98
              clear c98
              by_cases c99 : ((rd_T84 l0_7 x6_3).f2) = ((rd_T84 l0_7 x4_1).f2)
              · rw [if_pos c99] at H
                have c99b0 : (((rd_T84 l0_7 x6_3).f2) == ((rd_T84 l0_7 x4_1).f2)) = true := beq_iff_eq.mpr c99
                have c99b1 : (((rd_T84 l0_7 x6_3).f2) != ((rd_T84 l0_7 x4_1).f2)) = false := bne_eq_false_iff_eq.mpr c99
                clear c99
                obtain rfl := Option.some.inj H
                have hnb100 := NB313_314.out
                have hnc100 := NB314_313.out
                have hnb101 := NB313_316.out
                have hnc101 := NB316_313.out
                have hcz102_0 : wr.cell? ⟨gb313, 0, none⟩ = some (.int .i64 a0_0) := (bc BK313.out 0).trans rfl
                have hcz102_1 : wr.cell? ⟨gb313, 1, none⟩ = some (.int .i64 a0_1) := (bc BK313.out 1).trans rfl
                have hcz102_2 : wr.cell? ⟨gb313, 2, none⟩ = some (.string a0_2) := (bc BK313.out 2).trans rfl
                have hcz102_7 : wr.cell? ⟨gb313, 7, none⟩ = some (.slice (some ad315) l0_7.length c0_7) := (bc BK313.out 7).trans rfl
                have p319 : 0 ≤ (x6_3 : Int) := of_decide_eq_true (by first | (with_reducible assumption) | assumption)
                have q319 : x6_3 < (l0_7.length : Int) := of_decide_eq_true (by first | (with_reducible assumption) | assumption)
                obtain ⟨ad319, e319, hx319_0, hx319_1, hx319_2, hx319_3⟩ := at_T84 HR0_7.out x6_3 p319 q319
                obtain rfl : ad315 = ad319 := (by injection e319)
                replace hx319_0 := (HB.out.cell (World.block_lt_of_cell? w _ hx319_0)).trans hx319_0
                replace hx319_1 := (HB.out.cell (World.block_lt_of_cell? w _ hx319_1)).trans hx319_1
                replace hx319_2 := (HB.out.cell (World.block_lt_of_cell? w _ hx319_2)).trans hx319_2
                replace hx319_3 := (HB.out.cell (World.block_lt_of_cell? w _ hx319_3)).trans hx319_3
                replace p319 := eq_true p319
                replace q319 := eq_true q319
                go_wp2_with (first | ((with_reducible refine gate_dst (N := 7) rfl ?_); refine box_event ?hg (N := 7) ?hd (cs := #[.int .i64 0, .int .i64 0, .int .i64 0, .bool false]) (t := 84) ?hr ?_; (case hd => rfl); (case hg => rfl); (case hr => first | (go_simp; done) | (go_simp; rfl)); intro gb320 hg w103 hbox hb; have n0_ := Aside0.mk (bb (g := gb313) (by first | (with_reducible exact BK313.out) | (with_reducible exact bN BK313.out _) | (with_reducible exact bd BK313.out) | ((with_reducible repeat first | apply bN | apply bd | apply ba); exact BK313.out)) hb); have n1_ := Aside0.mk (bb (g := gb314) (by first | (with_reducible exact BK314.out) | (with_reducible exact bN BK314.out _) | (with_reducible exact bd BK314.out) | ((with_reducible repeat first | apply bN | apply bd | apply ba); exact BK314.out)) hb); have n2_ := Aside0.mk (bb (g := gb316) (by first | (with_reducible exact BK316.out) | (with_reducible exact bN BK316.out _) | (with_reducible exact bd BK316.out) | ((with_reducible repeat first | apply bN | apply bd | apply ba); exact BK316.out)) hb); have n3_ := Aside0.mk (below_step (by repeat (first | (with_reducible first | exact HB.out | apply wa | apply wN | apply wd | refine ws ?_ GE313.out | refine ws ?_ GE314.out | refine ws ?_ GE316.out) | exact HB.out)) hb); have n4_ := Aside0.mk (hbox); have n5_ := Aside0.mk ((by rw [hg]; exact (below_size (by repeat (first | (with_reducible first | exact HB.out | apply wa | apply wN | apply wd | refine ws ?_ GE313.out | refine ws ?_ GE314.out | refine ws ?_ GE316.out) | exact HB.out))) : w.heap.size ≤ gb320)); have n6_ := n5_; have n7_ := Aside0.mk ((by rw [hg]; exact Nat.ne_of_lt (blk_lt (g := gb313) (by (with_reducible repeat first | apply bN | apply bd | apply ba); exact BK313.out)) : gb313 ≠ gb320)); have n8_ := Aside0.mk ((by rw [hg]; exact Nat.ne_of_gt (blk_lt (g := gb313) (by (with_reducible repeat first | apply bN | apply bd | apply ba); exact BK313.out)) : gb320 ≠ gb313)); have n9_ := Aside0.mk ((by rw [hg]; exact Nat.ne_of_lt (blk_lt (g := gb314) (by (with_reducible repeat first | apply bN | apply bd | apply ba); exact BK314.out)) : gb314 ≠ gb320)); have n10_ := Aside0.mk ((by rw [hg]; exact Nat.ne_of_gt (blk_lt (g := gb314) (by (with_reducible repeat first | apply bN | apply bd | apply ba); exact BK314.out)) : gb320 ≠ gb314)); have n11_ := Aside0.mk ((by rw [hg]; exact Nat.ne_of_lt (blk_lt (g := gb316) (by (with_reducible repeat first | apply bN | apply bd | apply ba); exact BK316.out)) : gb316 ≠ gb320)); have n12_ := Aside0.mk ((by rw [hg]; exact Nat.ne_of_gt (blk_lt (g := gb316) (by (with_reducible repeat first | apply bN | apply bd | apply ba); exact BK316.out)) : gb320 ≠ gb316)); clear BK313; clear BK314; clear BK316; clear HB; have BK313 := n0_; have BK314 := n1_; have BK316 := n2_; have HB := n3_; have BK320 := n4_; have GW320 := n5_; have GE320 := n6_; have NB313_320 := n7_; have NB320_313 := n8_; have NB314_320 := n9_; have NB320_314 := n10_; have NB316_320 := n11_; have NB320_316 := n12_; clear n0_ n1_ n2_ n3_ n4_ n5_ n6_ n7_ n8_ n9_ n10_ n11_ n12_; clear hb hbox hg; have hnb104 := NB320_313.out; have hnc104 := NB313_320.out; have hnb105 := NB320_314.out; have hnc105 := NB314_320.out; have hnb106 := NB320_316.out; have hnc106 := NB316_320.out; have hcz107_0 : w103.cell? ⟨gb320, 0, none⟩ = some (.int .i64 0) := (bc BK320.out 0).trans rfl; have hcz107_1 : w103.cell? ⟨gb320, 1, none⟩ = some (.int .i64 0) := (bc BK320.out 1).trans rfl; have hcz107_2 : w103.cell? ⟨gb320, 2, none⟩ = some (.int .i64 0) := (bc BK320.out 2).trans rfl; have hcz107_3 : w103.cell? ⟨gb320, 3, none⟩ = some (.bool false) := (bc BK320.out 3).trans rfl; have hfz107_0 := bz BK320.out 0; have hfz107_1 := bz BK320.out 1; have hfz107_2 := bz BK320.out 2; have hfz107_3 := bz BK320.out 3; have hnb108 := NB316_314.out; have hnc108 := NB314_316.out; have hcz109_0 : w103.cell? ⟨gb316, 0, none⟩ = some (.int .i64 ((rd_T84 l0_7 x4_1).f0)) := (bc BK316.out 0).trans rfl; have hcz109_1 : w103.cell? ⟨gb316, 1, none⟩ = some (.int .i64 ((rd_T84 l0_7 x4_1).f1)) := (bc BK316.out 1).trans rfl; have hcz109_2 : w103.cell? ⟨gb316, 2, none⟩ = some (.int .i64 ((rd_T84 l0_7 x4_1).f2)) := (bc BK316.out 2).trans rfl; have hcz109_3 : w103.cell? ⟨gb316, 3, none⟩ = some (.bool ((rd_T84 l0_7 x4_1).f3)) := (bc BK316.out 3).trans rfl; have hfz109_0 := bz BK316.out 0; have hfz109_1 := bz BK316.out 1; have hfz109_2 := bz BK316.out 2; have hfz109_3 := bz BK316.out 3))
                go_ret
                exact ⟨by first | rfl | (simp [errW_none, errW_some] <;> rfl) | (simp [*, errW_none, errW_some] <;> rfl), by repeat (first | (with_reducible first | exact HB.out | apply wa | apply wN | apply wd | refine ws ?_ GE313.out | refine ws ?_ GE314.out | refine ws ?_ GE316.out | refine ws ?_ GE320.out) | exact HB.out)⟩
              rw [if_neg c99] at H
              have c99b0 : (((rd_T84 l0_7 x6_3).f2) == ((rd_T84 l0_7 x4_1).f2)) = false := beq_eq_false_iff_ne.mpr c99
              have c99b1 : (((rd_T84 l0_7 x6_3).f2) != ((rd_T84 l0_7 x4_1).f2)) = true := bne_iff_ne.mpr c99
              have H' := Aside0.mk H
              clear H
              have hnb110 := NB313_314.out
              have hnc110 := NB314_313.out
              have hnb111 := NB313_316.out
              have hnc111 := NB316_313.out
              have hcz112_0 : wr.cell? ⟨gb313, 0, none⟩ = some (.int .i64 a0_0) := (bc BK313.out 0).trans rfl
              have hcz112_1 : wr.cell? ⟨gb313, 1, none⟩ = some (.int .i64 a0_1) := (bc BK313.out 1).trans rfl
              have hcz112_2 : wr.cell? ⟨gb313, 2, none⟩ = some (.string a0_2) := (bc BK313.out 2).trans rfl
              have hcz112_7 : wr.cell? ⟨gb313, 7, none⟩ = some (.slice (some ad315) l0_7.length c0_7) := (bc BK313.out 7).trans rfl
              have p319 : 0 ≤ (x6_3 : Int) := of_decide_eq_true (by first | (with_reducible assumption) | assumption)
              have q319 : x6_3 < (l0_7.length : Int) := of_decide_eq_true (by first | (with_reducible assumption) | assumption)
              obtain ⟨ad319, e319, hx319_0, hx319_1, hx319_2, hx319_3⟩ := at_T84 HR0_7.out x6_3 p319 q319
              obtain rfl : ad315 = ad319 := (by injection e319)
              replace hx319_0 := (HB.out.cell (World.block_lt_of_cell? w _ hx319_0)).trans hx319_0
              replace hx319_1 := (HB.out.cell (World.block_lt_of_cell? w _ hx319_1)).trans hx319_1
              replace hx319_2 := (HB.out.cell (World.block_lt_of_cell? w _ hx319_2)).trans hx319_2
              replace hx319_3 := (HB.out.cell (World.block_lt_of_cell? w _ hx319_3)).trans hx319_3
              replace p319 := eq_true p319
              replace q319 := eq_true q319
              go_wp2_with (first | ((with_reducible refine gate_dst (N := 7) rfl ?_); refine box_event ?hg (N := 7) ?hd (cs := #[.int .i64 0, .int .i64 0, .int .i64 0, .bool false]) (t := 84) ?hr ?_; (case hd => rfl); (case hg => rfl); (case hr => first | (go_simp; done) | (go_simp; rfl)); intro gb320 hg w113 hbox hb; have n0_ := Aside0.mk (bb (g := gb313) (by first | (with_reducible exact BK313.out) | (with_reducible exact bN BK313.out _) | (with_reducible exact bd BK313.out) | ((with_reducible repeat first | apply bN | apply bd | apply ba); exact BK313.out)) hb); have n1_ := Aside0.mk (bb (g := gb314) (by first | (with_reducible exact BK314.out) | (with_reducible exact bN BK314.out _) | (with_reducible exact bd BK314.out) | ((with_reducible repeat first | apply bN | apply bd | apply ba); exact BK314.out)) hb); have n2_ := Aside0.mk (bb (g := gb316) (by first | (with_reducible exact BK316.out) | (with_reducible exact bN BK316.out _) | (with_reducible exact bd BK316.out) | ((with_reducible repeat first | apply bN | apply bd | apply ba); exact BK316.out)) hb); have n3_ := Aside0.mk (below_step (by repeat (first | (with_reducible first | exact HB.out | apply wa | apply wN | apply wd | refine ws ?_ GE313.out | refine ws ?_ GE314.out | refine ws ?_ GE316.out) | exact HB.out)) hb); have n4_ := Aside0.mk (hbox); have n5_ := Aside0.mk ((by rw [hg]; exact (below_size (by repeat (first | (with_reducible first | exact HB.out | apply wa | apply wN | apply wd | refine ws ?_ GE313.out | refine ws ?_ GE314.out | refine ws ?_ GE316.out) | exact HB.out))) : w.heap.size ≤ gb320)); have n6_ := n5_; have n7_ := Aside0.mk ((by rw [hg]; exact Nat.ne_of_lt (blk_lt (g := gb313) (by (with_reducible repeat first | apply bN | apply bd | apply ba); exact BK313.out)) : gb313 ≠ gb320)); have n8_ := Aside0.mk ((by rw [hg]; exact Nat.ne_of_gt (blk_lt (g := gb313) (by (with_reducible repeat first | apply bN | apply bd | apply ba); exact BK313.out)) : gb320 ≠ gb313)); have n9_ := Aside0.mk ((by rw [hg]; exact Nat.ne_of_lt (blk_lt (g := gb314) (by (with_reducible repeat first | apply bN | apply bd | apply ba); exact BK314.out)) : gb314 ≠ gb320)); have n10_ := Aside0.mk ((by rw [hg]; exact Nat.ne_of_gt (blk_lt (g := gb314) (by (with_reducible repeat first | apply bN | apply bd | apply ba); exact BK314.out)) : gb320 ≠ gb314)); have n11_ := Aside0.mk ((by rw [hg]; exact Nat.ne_of_lt (blk_lt (g := gb316) (by (with_reducible repeat first | apply bN | apply bd | apply ba); exact BK316.out)) : gb316 ≠ gb320)); have n12_ := Aside0.mk ((by rw [hg]; exact Nat.ne_of_gt (blk_lt (g := gb316) (by (with_reducible repeat first | apply bN | apply bd | apply ba); exact BK316.out)) : gb320 ≠ gb316)); clear BK313; clear BK314; clear BK316; clear HB; have BK313 := n0_; have BK314 := n1_; have BK316 := n2_; have HB := n3_; have BK320 := n4_; have GW320 := n5_; have GE320 := n6_; have NB313_320 := n7_; have NB320_313 := n8_; have NB314_320 := n9_; have NB320_314 := n10_; have NB316_320 := n11_; have NB320_316 := n12_; clear n0_ n1_ n2_ n3_ n4_ n5_ n6_ n7_ n8_ n9_ n10_ n11_ n12_; clear hb hbox hg; have hnb114 := NB320_313.out; have hnc114 := NB313_320.out; have hnb115 := NB320_314.out; have hnc115 := NB314_320.out; have hnb116 := NB320_316.out; have hnc116 := NB316_320.out; have hcz117_0 : w113.cell? ⟨gb320, 0, none⟩ = some (.int .i64 0) := (bc BK320.out 0).trans rfl; have hcz117_1 : w113.cell? ⟨gb320, 1, none⟩ = some (.int .i64 0) := (bc BK320.out 1).trans rfl; have hcz117_2 : w113.cell? ⟨gb320, 2, none⟩ = some (.int .i64 0) := (bc BK320.out 2).trans rfl; have hcz117_3 : w113.cell? ⟨gb320, 3, none⟩ = some (.bool false) := (bc BK320.out 3).trans rfl; have hfz117_0 := bz BK320.out 0; have hfz117_1 := bz BK320.out 1; have hfz117_2 := bz BK320.out 2; have hfz117_3 := bz BK320.out 3; have hnb118 := NB316_314.out; have hnc118 := NB314_316.out; have hcz119_0 : w113.cell? ⟨gb316, 0, none⟩ = some (.int .i64 ((rd_T84 l0_7 x4_1).f0)) := (bc BK316.out 0).trans rfl; have hcz119_1 : w113.cell? ⟨gb316, 1, none⟩ = some (.int .i64 ((rd_T84 l0_7 x4_1).f1)) := (bc BK316.out 1).trans rfl; have hcz119_2 : w113.cell? ⟨gb316, 2, none⟩ = some (.int .i64 ((rd_T84 l0_7 x4_1).f2)) := (bc BK316.out 2).trans rfl; have hcz119_3 : w113.cell? ⟨gb316, 3, none⟩ = some (.bool ((rd_T84 l0_7 x4_1).f3)) := (bc BK316.out 3).trans rfl; have hfz119_0 := bz BK316.out 0; have hfz119_1 := bz BK316.out 1; have hfz119_2 := bz BK316.out 2; have hfz119_3 := bz BK316.out 3))
              go_roundg k3
              case measure => have := HK1.out; have := HJ16.out; have := HK3.out; omega
              case rel => exact ⟨(wrap64 (x6_3 + 1)), (by first | rfl | (simp; done) | (simp [*]; done)), H', ⟨by have := HK1.out; have := HJ16.out; have := HK3.out; omega⟩, ⟨by (with_reducible repeat first | apply bN | apply bd | apply ba); refine blk_far ?_ NB313_320.out _; (with_reducible repeat first | apply bN | apply bd | apply ba); refine blk_far ?_ NB313_320.out _; (with_reducible repeat first | apply bN | apply bd | apply ba); refine blk_far ?_ NB313_320.out _; (with_reducible repeat first | apply bN | apply bd | apply ba); refine blk_far ?_ NB313_320.out _; (with_reducible repeat first | apply bN | apply bd | apply ba); exact BK313.out⟩, ⟨by (with_reducible repeat first | apply bN | apply bd | apply ba); refine blk_far ?_ NB314_320.out _; (with_reducible repeat first | apply bN | apply bd | apply ba); refine blk_far ?_ NB314_320.out _; (with_reducible repeat first | apply bN | apply bd | apply ba); refine blk_far ?_ NB314_320.out _; (with_reducible repeat first | apply bN | apply bd | apply ba); refine blk_far ?_ NB314_320.out _; (with_reducible repeat first | apply bN | apply bd | apply ba); exact BK314.out⟩, ⟨by (with_reducible repeat first | apply bN | apply bd | apply ba); refine blk_far ?_ NB316_320.out _; (with_reducible repeat first | apply bN | apply bd | apply ba); refine blk_far ?_ NB316_320.out _; (with_reducible repeat first | apply bN | apply bd | apply ba); refine blk_far ?_ NB316_320.out _; (with_reducible repeat first | apply bN | apply bd | apply ba); refine blk_far ?_ NB316_320.out _; (with_reducible repeat first | apply bN | apply bd | apply ba); exact BK316.out⟩, ⟨by repeat (first | (with_reducible first | exact HB.out | apply wa | apply wN | apply wd | refine ws ?_ GE313.out | refine ws ?_ GE314.out | refine ws ?_ GE316.out | refine ws ?_ GE320.out) | exact HB.out)⟩⟩

end Go.Proofs.Ytfinjkjnoobbjaa.MFnExactSafeYard
