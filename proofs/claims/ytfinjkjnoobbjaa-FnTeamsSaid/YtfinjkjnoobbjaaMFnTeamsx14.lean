/- Made by a program of this session (out of the kit's print, with hand-made contracts): what each Go function that the law reaches computes, and that the machine's call does so. -/
import Derived.Test.YtfinjkjnoobbjaaXFnTeamsMyReg
import Derived.Test.YtfinjkjnoobbjaaMFnTeamsx0
import Derived.Test.YtfinjkjnoobbjaaMFnTeamsx13
namespace Go.Proofs.Ytfinjkjnoobbjaa.MFnTeams
open Go.RowKit Go.Proofs.YtfinjkjnoobbjaaW.PrintWords Go.Proofs.YtfinjkjnoobbjaaW.PrintLast Go.Proofs.YtfinjkjnoobbjaaW.PrintMore Go.Proofs.Ytfinjkjnoobbjaa.MyReg
attribute [local go_sem] max2_int min2_int max_two min_two max_three min_three max_four min_four   -- for this text's walks alone
set_option linter.unusedVariables false
set_option linter.unusedSimpArgs false

/-! ### impl_around: function 156 -/
mutual
def impl_around.j0 : Nat → Int → List Int → Int → Int → ByteArray → Option (List Int)
  | 0, _, _, _, _, _ => none
  | k + 1, x1, x5, x301000, x301001, x301002 => if x301000 = 0 then (none) else (if (Int.tmod x1 x301000) > 0 then ((impl_isFree.f x301000 x301001 x301002 (wrap64 (x1 - 1))).bind fun t306 => (impl_around.j1 k x1 x5 t306 x301000 x301001 x301002)) else (impl_around.j1 k x1 x5 false x301000 x301001 x301002))
def impl_around.j1 : Nat → Int → List Int → Bool → Int → Int → ByteArray → Option (List Int)
  | 0, _, _, _, _, _, _ => none
  | k + 1, x1, x5, x33, x301000, x301001, x301002 => if x33 = true then (if x5.length < 17592186044416 then (impl_around.j2 k x1 (x5 ++ [wrap64 (x1 - 1)]) x301000 x301001 x301002) else (none)) else (impl_around.j2 k x1 x5 x301000 x301001 x301002)
def impl_around.j2 : Nat → Int → List Int → Int → Int → ByteArray → Option (List Int)
  | 0, _, _, _, _, _ => none
  | k + 1, x1, x5, x301000, x301001, x301002 => if x301000 = 0 then (none) else (if (Int.tmod x1 x301000) < (wrap64 (x301000 - 1)) then ((impl_isFree.f x301000 x301001 x301002 (wrap64 (x1 + 1))).bind fun t310 => (impl_around.j3 k x1 x5 t310 x301000 x301001 x301002)) else (impl_around.j3 k x1 x5 false x301000 x301001 x301002))
def impl_around.j3 : Nat → Int → List Int → Bool → Int → Int → ByteArray → Option (List Int)
  | 0, _, _, _, _, _, _ => none
  | k + 1, x1, x5, x52, x301000, x301001, x301002 => if x52 = true then (if x5.length < 17592186044416 then ((some (x5 ++ [wrap64 (x1 + 1)] : List Int)).bind fun y311 => ((impl_isFree.f x301000 x301001 x301002 (wrap64 (x1 + x301000))).bind fun t314 => (if t314 = true then (if y311.length < 17592186044416 then (some (y311 ++ [wrap64 (x1 + x301000)])) else (none)) else (some y311)))) else (none)) else ((impl_isFree.f x301000 x301001 x301002 (wrap64 (x1 + x301000))).bind fun t318 => (if t318 = true then (if x5.length < 17592186044416 then (some (x5 ++ [wrap64 (x1 + x301000)])) else (none)) else (some x5)))
end
def impl_around.f (k : Nat) (a0_0 : Int) (a0_1 : Int) (a0_2 : ByteArray) (a1 : Int) : Option (List Int) := (impl_isFree.f a0_0 a0_1 a0_2 a1).bind fun t301 => (if t301 = true then ((impl_isFree.f a0_0 a0_1 a0_2 (wrap64 (a1 - a0_0))).bind fun t302 => (if t302 = true then (if ([] : List Int).length < 17592186044416 then (impl_around.j0 k a1 (([] : List Int) ++ [wrap64 (a1 - a0_0)]) a0_0 a0_1 a0_2) else (none)) else (impl_around.j0 k a1 ([] : List Int) a0_0 a0_1 a0_2))) else (some ([] : List Int)))
theorem impl_around.mono_l : ∀ k, (∀ y0 y1 y2 y3 y4, LeO (impl_around.j0 k y0 y1 y2 y3 y4) (impl_around.j0 (k + 1) y0 y1 y2 y3 y4)) ∧ (∀ y0 y1 y2 y3 y4 y5, LeO (impl_around.j1 k y0 y1 y2 y3 y4 y5) (impl_around.j1 (k + 1) y0 y1 y2 y3 y4 y5)) ∧ (∀ y0 y1 y2 y3 y4, LeO (impl_around.j2 k y0 y1 y2 y3 y4) (impl_around.j2 (k + 1) y0 y1 y2 y3 y4)) ∧ (∀ y0 y1 y2 y3 y4 y5, LeO (impl_around.j3 k y0 y1 y2 y3 y4 y5) (impl_around.j3 (k + 1) y0 y1 y2 y3 y4 y5))
  | 0 => ⟨fun _ _ _ _ _ r h => by simp [impl_around.j0] at h, fun _ _ _ _ _ _ r h => by simp [impl_around.j1] at h, fun _ _ _ _ _ r h => by simp [impl_around.j2] at h, fun _ _ _ _ _ _ r h => by simp [impl_around.j3] at h⟩
  | k + 1 => by
    obtain ⟨ih0, ih1, ih2, ih3⟩ := impl_around.mono_l k
    refine ⟨?_, ?_, ?_, ?_⟩
    · intro y0 y1 y2 y3 y4
      unfold impl_around.j0
      repeat' first
      | (with_reducible exact ih0 _ _ _ _ _)
      | (with_reducible exact ih1 _ _ _ _ _ _)
      | (with_reducible exact ih2 _ _ _ _ _)
      | (with_reducible exact ih3 _ _ _ _ _ _)
      | (with_reducible exact LeO.refl _)
      | (with_reducible exact LeO.none _)
      | (with_reducible refine LeO.ite ?_ ?_)
      | (with_reducible refine LeO.bind ?_ (fun _ => ?_))
      | exact ih0 _ _ _ _ _
      | exact ih1 _ _ _ _ _ _
      | exact ih2 _ _ _ _ _
      | exact ih3 _ _ _ _ _ _
      | exact LeO.none _
      | refine LeO.ite ?_ ?_
      | refine LeO.bind ?_ (fun _ => ?_)
    · intro y0 y1 y2 y3 y4 y5
      unfold impl_around.j1
      repeat' first
      | (with_reducible exact ih0 _ _ _ _ _)
      | (with_reducible exact ih1 _ _ _ _ _ _)
      | (with_reducible exact ih2 _ _ _ _ _)
      | (with_reducible exact ih3 _ _ _ _ _ _)
      | (with_reducible exact LeO.refl _)
      | (with_reducible exact LeO.none _)
      | (with_reducible refine LeO.ite ?_ ?_)
      | (with_reducible refine LeO.bind ?_ (fun _ => ?_))
      | exact ih0 _ _ _ _ _
      | exact ih1 _ _ _ _ _ _
      | exact ih2 _ _ _ _ _
      | exact ih3 _ _ _ _ _ _
      | exact LeO.none _
      | refine LeO.ite ?_ ?_
      | refine LeO.bind ?_ (fun _ => ?_)
    · intro y0 y1 y2 y3 y4
      unfold impl_around.j2
      repeat' first
      | (with_reducible exact ih0 _ _ _ _ _)
      | (with_reducible exact ih1 _ _ _ _ _ _)
      | (with_reducible exact ih2 _ _ _ _ _)
      | (with_reducible exact ih3 _ _ _ _ _ _)
      | (with_reducible exact LeO.refl _)
      | (with_reducible exact LeO.none _)
      | (with_reducible refine LeO.ite ?_ ?_)
      | (with_reducible refine LeO.bind ?_ (fun _ => ?_))
      | exact ih0 _ _ _ _ _
      | exact ih1 _ _ _ _ _ _
      | exact ih2 _ _ _ _ _
      | exact ih3 _ _ _ _ _ _
      | exact LeO.none _
      | refine LeO.ite ?_ ?_
      | refine LeO.bind ?_ (fun _ => ?_)
    · intro y0 y1 y2 y3 y4 y5
      unfold impl_around.j3
      repeat' first
      | (with_reducible exact ih0 _ _ _ _ _)
      | (with_reducible exact ih1 _ _ _ _ _ _)
      | (with_reducible exact ih2 _ _ _ _ _)
      | (with_reducible exact ih3 _ _ _ _ _ _)
      | (with_reducible exact LeO.refl _)
      | (with_reducible exact LeO.none _)
      | (with_reducible refine LeO.ite ?_ ?_)
      | (with_reducible refine LeO.bind ?_ (fun _ => ?_))
      | exact ih0 _ _ _ _ _
      | exact ih1 _ _ _ _ _ _
      | exact ih2 _ _ _ _ _
      | exact ih3 _ _ _ _ _ _
      | exact LeO.none _
      | refine LeO.ite ?_ ?_
      | refine LeO.bind ?_ (fun _ => ?_)
theorem impl_around.mono : ∀ a0 a1 a2 a3 k, LeO (impl_around.f k a0 a1 a2 a3) (impl_around.f (k + 1) a0 a1 a2 a3) := by
  intro a0 a1 a2 a3 k
  obtain ⟨ih0, ih1, ih2, ih3⟩ := impl_around.mono_l k
  unfold impl_around.f
  repeat' first
      | (with_reducible exact ih0 _ _ _ _ _)
      | (with_reducible exact ih1 _ _ _ _ _ _)
      | (with_reducible exact ih2 _ _ _ _ _)
      | (with_reducible exact ih3 _ _ _ _ _ _)
      | (with_reducible exact LeO.refl _)
      | (with_reducible exact LeO.none _)
      | (with_reducible refine LeO.ite ?_ ?_)
      | (with_reducible refine LeO.bind ?_ (fun _ => ?_))
      | exact ih0 _ _ _ _ _
      | exact ih1 _ _ _ _ _ _
      | exact ih2 _ _ _ _ _
      | exact ih3 _ _ _ _ _ _
      | exact LeO.none _
      | refine LeO.ite ?_ ?_
      | refine LeO.bind ?_ (fun _ => ?_)
def impl_around.T9 : Bool × List (List Nat × List Nat) := (true, [([], []), ([], []), ([1], [1]), ([0, 2], [0, 2]), ([], []), ([4], [4]), ([5], [5]), ([3, 6], [3, 6]), ([7], [7]), ([8], [8]), ([8], [8]), ([10, 8], [8, 10]), ([9, 11, 8, 8], [8, 9, 11]), ([8, 12], [8, 12])])
def impl_around.B9 : List Nat := [0, 0, 2, 7, 0, 16, 48, 127, 255, 511, 511, 1535, 4095, 8191]
theorem impl_around.tab9 : rtab .any (opsOf Try.f156 9) = impl_around.T9 := by kernel_rfl
theorem impl_around.bits9 : waitsOk impl_around.T9.2 impl_around.B9 = true := by kernel_rfl
set_option maxHeartbeats 8000000 in
set_option maxRecDepth 100000 in
theorem impl_around.calls (k : Nat) (a0_0 : Int) (a0_1 : Int) (a0_2 : ByteArray) (a1 : Int) (r : List Int) (w : World) (h : impl_around.f k a0_0 a0_1 a0_2 a1 = some r) :
    Calls Try.prog 156 #[.agg #[.int .i64 a0_0, .int .i64 a0_1, .string a0_2], .int .i64 a1] w fun e w' => ∃ v0_ : Value, e = .returned (v0_) ∧ Kd.R (Kd.int .i64) 3 w' w.heap.size (fun _ => True) v0_ r ∧ Below w.heap.size w w' := by
  have hu27 := Try.underlying27
  have HB := Aside0.mk (Below.refl w.heap.size w)
  have H : ((impl_isFree.f a0_0 a0_1 a0_2 a1).bind fun t301 => (if t301 = true then ((impl_isFree.f a0_0 a0_1 a0_2 (wrap64 (a1 - a0_0))).bind fun t302 => (if t302 = true then (if ([] : List Int).length < 17592186044416 then (impl_around.j0 k a1 (([] : List Int) ++ [wrap64 (a1 - a0_0)]) a0_0 a0_1 a0_2) else (none)) else (impl_around.j0 k a1 ([] : List Int) a0_0 a0_1 a0_2))) else (some ([] : List Int)))) = some r := h
  clear h
  replace H := Option.bind_eq_some_iff.mp H
  obtain ⟨t301, A30, H⟩ := H
  replace H : (if t301 = true then ((impl_isFree.f a0_0 a0_1 a0_2 (wrap64 (a1 - a0_0))).bind fun t302 => (if t302 = true then (if ([] : List Int).length < 17592186044416 then (impl_around.j0 k a1 (([] : List Int) ++ [wrap64 (a1 - a0_0)]) a0_0 a0_1 a0_2) else (none)) else (impl_around.j0 k a1 ([] : List Int) a0_0 a0_1 a0_2))) else (some ([] : List Int))) = some r := H
  have A3 := Aside0.mk A30
  clear A30
  by_cases c4 : t301 = true
  rotate_left
  · replace c4 := Bool.eq_false_iff.mpr c4
    subst c4
    have H1 : (some ([] : List Int)) = some r := by rw [if_neg (show ¬ (false = true) by decide)] at H; exact H
    clear H
    have H := H1
    clear H1
    obtain rfl := Option.some.inj H
    go_enter Try.func156, Try.ntmps156
    go_wp2_with (first | ((with_reducible refine gate_dst (N := 2) rfl ?_); refine box_event ?hg (N := 2) ?hd (cs := #[.int .i64 a0_0, .int .i64 a0_1, .string a0_2]) (t := 27) ?hr ?_; (case hd => rfl); (case hg => rfl); (case hr => first | (go_simp; done) | (go_simp; rfl)); intro gb300 hg w53 hbox hb; have n0_ := Aside0.mk (below_step (by repeat (first | (with_reducible first | exact HB.out | apply wa | apply wN | apply wd) | exact HB.out)) hb); have n1_ := Aside0.mk (hbox); have n2_ := Aside0.mk ((by rw [hg]; exact (below_size (by repeat (first | (with_reducible first | exact HB.out | apply wa | apply wN | apply wd) | exact HB.out))) : w.heap.size ≤ gb300)); have n3_ := n2_; clear HB; have HB := n0_; have BK300 := n1_; have GW300 := n2_; have GE300 := n3_; clear n0_ n1_ n2_ n3_; clear hb hbox hg; have hcz54_0 : w53.cell? ⟨gb300, 0, none⟩ = some (.int .i64 a0_0) := (bc BK300.out 0).trans rfl; have hcz54_1 : w53.cell? ⟨gb300, 1, none⟩ = some (.int .i64 a0_1) := (bc BK300.out 1).trans rfl; have hcz54_2 : w53.cell? ⟨gb300, 2, none⟩ = some (.string a0_2) := (bc BK300.out 2).trans rfl) | ((with_reducible refine gate_callee (f := 95) rfl ?_); refine goesL_ (some 10) rfl rfl Try.func95 (by kernel_rfl) rfl #[.agg #[.int .i64 a0_0, .int .i64 a0_1, .string a0_2], .int .i64 a1] rfl (by (try simp only [List.map_toArray, List.map_cons, List.map_nil]); first | done | rfl | (simp only [List.length_drop, List.length_take]; rfl)) ?_; (with_reducible refine (impl_isFree.calls a0_0 a0_1 a0_2 a1 false _ A3.out).mono ?_); rintro e w55 ⟨rfl, hb⟩; refine ⟨_, rfl, ?_⟩; have n0_ := Aside0.mk (bb (g := gb300) (by first | (with_reducible exact BK300.out) | (with_reducible exact bN BK300.out _) | (with_reducible exact bd BK300.out) | ((with_reducible repeat first | apply bN | apply bd | apply ba); exact BK300.out)) hb); have n1_ := Aside0.mk (below_step (by repeat (first | (with_reducible first | exact HB.out | apply wa | apply wN | apply wd | refine ws ?_ GE300.out) | exact HB.out)) hb); clear BK300; clear HB; have BK300 := n0_; have HB := n1_; clear n0_ n1_; (try clear hb); (try clear hb2); (try clear hk); (try clear hi)))
    go_ret
    exact ⟨_, by first | rfl | (simp [errW_none, errW_some] <;> rfl) | (simp [*, errW_none, errW_some] <;> rfl), by first | exact Kd.R_nil _ _ _ _ _ | exact Kd.N_nil _ _ _ _ _ | exact Kd.V_nil _ _ _ _ _ | exact Kd.Q_nil _ _ _ _ _ | exact Kd.S_nil _ _ _ _ _, by repeat (first | (with_reducible first | exact HB.out | apply wa | apply wN | apply wd | refine ws ?_ GE300.out) | exact HB.out)⟩
  subst c4
  have H1 : ((impl_isFree.f a0_0 a0_1 a0_2 (wrap64 (a1 - a0_0))).bind fun t302 => (if t302 = true then (if ([] : List Int).length < 17592186044416 then (impl_around.j0 k a1 (([] : List Int) ++ [wrap64 (a1 - a0_0)]) a0_0 a0_1 a0_2) else (none)) else (impl_around.j0 k a1 ([] : List Int) a0_0 a0_1 a0_2))) = some r := by rw [if_pos rfl] at H; exact H
  clear H
  have H := H1
  clear H1
  replace H := Option.bind_eq_some_iff.mp H
  obtain ⟨t302, A50, H⟩ := H
  replace H : (if t302 = true then (if ([] : List Int).length < 17592186044416 then (impl_around.j0 k a1 (([] : List Int) ++ [wrap64 (a1 - a0_0)]) a0_0 a0_1 a0_2) else (none)) else (impl_around.j0 k a1 ([] : List Int) a0_0 a0_1 a0_2)) = some r := H
  have A5 := Aside0.mk A50
  clear A50
  have HC6 := Aside0.mk H
  clear H
  go_enter Try.func156, Try.ntmps156
  go_upto_if 18 with (first | ((with_reducible refine gate_dst (N := 2) rfl ?_); refine box_event ?hg (N := 2) ?hd (cs := #[.int .i64 a0_0, .int .i64 a0_1, .string a0_2]) (t := 27) ?hr ?_; (case hd => rfl); (case hg => rfl); (case hr => first | (go_simp; done) | (go_simp; rfl)); intro gb300 hg w7 hbox hb; have n0_ := Aside0.mk (below_step (by repeat (first | (with_reducible first | exact HB.out | apply wa | apply wN | apply wd) | exact HB.out)) hb); have n1_ := Aside0.mk (hbox); have n2_ := Aside0.mk ((by rw [hg]; exact (below_size (by repeat (first | (with_reducible first | exact HB.out | apply wa | apply wN | apply wd) | exact HB.out))) : w.heap.size ≤ gb300)); have n3_ := n2_; clear HB; have HB := n0_; have BK300 := n1_; have GW300 := n2_; have GE300 := n3_; clear n0_ n1_ n2_ n3_; clear hb hbox hg; have hcz8_0 : w7.cell? ⟨gb300, 0, none⟩ = some (.int .i64 a0_0) := (bc BK300.out 0).trans rfl; have hcz8_1 : w7.cell? ⟨gb300, 1, none⟩ = some (.int .i64 a0_1) := (bc BK300.out 1).trans rfl; have hcz8_2 : w7.cell? ⟨gb300, 2, none⟩ = some (.string a0_2) := (bc BK300.out 2).trans rfl) | ((with_reducible refine gate_callee (f := 95) rfl ?_); refine goesL_ (some 10) rfl rfl Try.func95 (by kernel_rfl) rfl #[.agg #[.int .i64 a0_0, .int .i64 a0_1, .string a0_2], .int .i64 a1] rfl (by (try simp only [List.map_toArray, List.map_cons, List.map_nil]); first | done | rfl | (simp only [List.length_drop, List.length_take]; rfl)) ?_; (with_reducible refine (impl_isFree.calls a0_0 a0_1 a0_2 a1 true _ A3.out).mono ?_); rintro e w9 ⟨rfl, hb⟩; refine ⟨_, rfl, ?_⟩; have n0_ := Aside0.mk (bb (g := gb300) (by first | (with_reducible exact BK300.out) | (with_reducible exact bN BK300.out _) | (with_reducible exact bd BK300.out) | ((with_reducible repeat first | apply bN | apply bd | apply ba); exact BK300.out)) hb); have n1_ := Aside0.mk (below_step (by repeat (first | (with_reducible first | exact HB.out | apply wa | apply wN | apply wd | refine ws ?_ GE300.out) | exact HB.out)) hb); clear BK300; clear HB; have BK300 := n0_; have HB := n1_; clear n0_ n1_; (try clear hb); (try clear hb2); (try clear hk); (try clear hi); have hcz10_0 : w9.cell? ⟨gb300, 0, none⟩ = some (.int .i64 a0_0) := (bc BK300.out 0).trans rfl; have hcz10_1 : w9.cell? ⟨gb300, 1, none⟩ = some (.int .i64 a0_1) := (bc BK300.out 1).trans rfl; have hcz10_2 : w9.cell? ⟨gb300, 2, none⟩ = some (.string a0_2) := (bc BK300.out 2).trans rfl) | ((with_reducible refine gate_callee (f := 95) rfl ?_); refine goesL_ (some 18) rfl rfl Try.func95 (by kernel_rfl) rfl #[.agg #[.int .i64 a0_0, .int .i64 a0_1, .string a0_2], .int .i64 (wrap64 (a1 - a0_0))] rfl (by (try simp only [List.map_toArray, List.map_cons, List.map_nil]); first | done | rfl | (simp only [List.length_drop, List.length_take]; rfl)) ?_; (with_reducible refine (impl_isFree.calls a0_0 a0_1 a0_2 (wrap64 (a1 - a0_0)) t302 _ A5.out).mono ?_); rintro e w11 ⟨rfl, hb⟩; refine ⟨_, rfl, ?_⟩; have n0_ := Aside0.mk (bb (g := gb300) (by first | (with_reducible exact BK300.out) | (with_reducible exact bN BK300.out _) | (with_reducible exact bd BK300.out) | ((with_reducible repeat first | apply bN | apply bd | apply ba); exact BK300.out)) hb); have n1_ := Aside0.mk (below_step (by repeat (first | (with_reducible first | exact HB.out | apply wa | apply wN | apply wd | refine ws ?_ GE300.out) | exact HB.out)) hb); clear BK300; clear HB; have BK300 := n0_; have HB := n1_; clear n0_ n1_; (try clear hb); (try clear hb2); (try clear hk); (try clear hi)))
  (try simp only [Act.put, List.setIfInBounds_toArray, List.set_cons_zero, List.set_cons_succ])
  go_cut [5] (fun v5 wc => ∃ (kq : Nat) (x5_5 : List Int), Aside0 (impl_around.j0 kq a1 x5_5 a0_0 a0_1 a0_2 = some r) ∧ Aside0 (kq ≤ k) ∧ Aside0 (Kd.R (Kd.int .i64) 3 wc w.heap.size (fun _ => True) v5 x5_5) ∧ Aside0 (wc.heap[gb300]? = some (.cells #[.int .i64 a0_0, .int .i64 a0_1, .string a0_2] 27 (0, 0))) ∧ Aside0 (Below w.heap.size w wc))
  case first =>
    have H := HC6.out
    clear HC6
    by_cases c12 : t302 = true
    rotate_left
    · replace c12 := Bool.eq_false_iff.mpr c12
      subst c12
      have H1 : (impl_around.j0 k a1 ([] : List Int) a0_0 a0_1 a0_2) = some r := by rw [if_neg (show ¬ (false = true) by decide)] at H; exact H
      clear H
      have H := H1
      clear H1
      have H' := Aside0.mk H
      clear H
      go_wp2
      go_meet
      case rel => exact ⟨_, (([] : List Int)), H', ⟨by first | omega | exact Nat.le_refl _⟩, ⟨by first | exact Kd.R_nil _ _ _ _ _ | exact Kd.N_nil _ _ _ _ _ | exact Kd.V_nil _ _ _ _ _ | exact Kd.Q_nil _ _ _ _ _ | exact Kd.S_nil _ _ _ _ _⟩, ⟨by (with_reducible repeat first | apply bN | apply bd | apply ba); exact BK300.out⟩, ⟨by repeat (first | (with_reducible first | exact HB.out | apply wa | apply wN | apply wd | refine ws ?_ GE300.out) | exact HB.out)⟩⟩
    subst c12
    have H1 : (if ([] : List Int).length < 17592186044416 then (impl_around.j0 k a1 (([] : List Int) ++ [wrap64 (a1 - a0_0)]) a0_0 a0_1 a0_2) else (none)) = some r := by rw [if_pos rfl] at H; exact H
    clear H
    have H := H1
    clear H1
    by_cases c13 : ([] : List Int).length < 17592186044416
    rotate_left
    · rw [if_neg c13] at H
      exact absurd H (by simp)
    rw [if_pos c13] at H
    have LMc13 := Aside0.mk c13
    clear c13
    obtain ⟨y303, hy303⟩ : ∃ y_ : List Int, y_ = (([] : List Int) ++ [wrap64 (a1 - a0_0)]) := ⟨_, rfl⟩
    replace H : (impl_around.j0 k a1 y303 a0_0 a0_1 a0_2) = some r := by first | (rw [hy303]; with_reducible exact H) | (have H2_ := (Option.bind_some _ _).symm.trans H; rw [hy303]; with_reducible exact H2_) | (have H2_ := (Option.bind_some _ _).symm.trans H; with_reducible exact H2_) | with_reducible exact H | (rw [hy303]; exact H) | exact H
    have Ny303 := Aside0.mk hy303
    clear hy303
    have H' := Aside0.mk H
    clear H
    go_wp2_with (first | ((with_reducible refine gate_builtin (b := .append) (xs := #[.tmp 19, .tmp 21]) rfl ?_); at_builtin; refine Kd.R_append (Kd.int .i64) (w0 := w) w.heap.size rfl (.tmp 19) (.tmp 21) 31 3 (.int .i64 0) 8 rfl Try.underlying31 info3 rfl (by decide) (by omega) (.slice none 0 0) ([] : List Int) (wrap64 (a1 - a0_0)) [.int .i64 (wrap64 (a1 - a0_0))] (fun _ => True) (fun _ => False) rfl rfl ?aP (fun _ hk => hk.elim) ?aF ?aO ?aB ?aS ?aL ?_; (case aP => exact rfl); (case aB => exact (by repeat (first | (with_reducible first | exact HB.out | apply wa | apply wN | apply wd | refine ws ?_ GE300.out) | exact HB.out))); (case aF => exact (fun _ _ => trivial)); (case aO => exact ((Kd.R_nil _ _ _ _ (fun _ => True)))); (case aS => exact (below_size (by repeat (first | (with_reducible first | exact HB.out | apply wa | apply wN | apply wd | refine ws ?_ GE300.out) | exact HB.out)))); (case aL => have := LMc13.out; omega); intro v304 w14 ho hb hg hat; rw [← Ny303.out] at ho; have n0_ := Aside0.mk (blk_grown (g := gb300) (by (with_reducible repeat first | apply bN | apply bd | apply ba); exact BK300.out) hg (by simp [Value.ownBlock])); have n1_ := Aside0.mk (hb); have n2_ := Aside0.mk (ho); clear BK300; clear HB; have BK300 := n0_; have HB := n1_; have HO305 := n2_; clear n0_ n1_ n2_; clear ho hb hg hat))
    go_meet
    case rel => exact ⟨_, (y303), H', ⟨by first | omega | exact Nat.le_refl _⟩, ⟨by (with_reducible repeat (first | apply Kd.Ra | apply Kd.Rn | apply Kd.Rd)); exact HO305.out⟩, ⟨by (with_reducible repeat first | apply bN | apply bd | apply ba); exact BK300.out⟩, ⟨by repeat (first | (with_reducible first | exact HB.out | apply wa | apply wN | apply wd | refine ws ?_ GE300.out) | exact HB.out)⟩⟩
  case rest =>
    clear HC6
    try clear c1
    try clear p2
    try clear c4
    try clear p6
    try clear c9
    try clear c12
    try clear c13
    try clear hcz10_0
    try clear hcz10_1
    try clear hcz10_2
    try clear hcz8_0
    try clear hcz8_1
    try clear hcz8_2
    obtain ⟨kq, x5_5, HA, HJ5, HO_5, BK300, HB⟩ := hcut
    cases kq with
    | zero => exact absurd HA.out (by simp [impl_around.j0])
    | succ kj5 =>
      have H := HA.out
      clear HA
      simp only [impl_around.j0] at H
      have HC15 := Aside0.mk H
      clear H
      go_upto_region 7 with (fail)
      go_cut [33] (fun v33 wc => ∃ (kq : Nat) (x33_14 : Bool), v33 = .bool x33_14 ∧ Aside0 (impl_around.j1 kq a1 x5_5 x33_14 a0_0 a0_1 a0_2 = some r) ∧ Aside0 (kq ≤ kj5) ∧ Aside0 (Kd.R (Kd.int .i64) 3 wc w.heap.size (fun _ => True) u5 x5_5) ∧ Aside0 (wc.heap[gb300]? = some (.cells #[.int .i64 a0_0, .int .i64 a0_1, .string a0_2] 27 (0, 0))) ∧ Aside0 (Below w.heap.size w wc))
      case first =>
        have H := HC15.out
        clear HC15
        by_cases c16 : a0_0 = 0
        · rw [if_pos c16] at H
          exact absurd H (by simp)
        rw [if_neg c16] at H
        have c16b0 : (a0_0 == 0) = false := beq_eq_false_iff_ne.mpr c16
        have c16b1 : (a0_0 != 0) = true := bne_iff_ne.mpr c16
        (first | rw [c16b0] | (simp only [i64_w, i32_w]; rw [c16b0]) | skip)
        by_cases c17 : (Int.tmod a1 a0_0) > 0
        rotate_left
        · rw [if_neg c17] at H
          have c17b0 : decide (0 < (Int.tmod a1 a0_0)) = false := decide_eq_false c17
          clear c17
          have H' := Aside0.mk H
          clear H
          have hcz21_0 : wc.cell? ⟨gb300, 0, none⟩ = some (.int .i64 a0_0) := (bc BK300.out 0).trans rfl
          have hcz21_1 : wc.cell? ⟨gb300, 1, none⟩ = some (.int .i64 a0_1) := (bc BK300.out 1).trans rfl
          have hcz21_2 : wc.cell? ⟨gb300, 2, none⟩ = some (.string a0_2) := (bc BK300.out 2).trans rfl
          go_wp2
          go_meet
          case rel => exact ⟨_, (false), (by first | rfl | (simp; done) | (simp [*]; done)), H', ⟨by have := HJ5.out; first | omega | exact Nat.le_refl _⟩, ⟨by (with_reducible repeat (first | apply Kd.Ra | apply Kd.Rn | apply Kd.Rd)); exact HO_5.out⟩, ⟨by (with_reducible repeat first | apply bN | apply bd | apply ba); exact BK300.out⟩, ⟨by repeat (first | (with_reducible first | exact HB.out | apply wa | apply wN | apply wd | refine ws ?_ GE300.out) | exact HB.out)⟩⟩
        rw [if_pos c17] at H
        have c17b0 : decide (0 < (Int.tmod a1 a0_0)) = true := decide_eq_true c17
        clear c17
        replace H := Option.bind_eq_some_iff.mp H
        obtain ⟨t306, A180, H⟩ := H
        replace H : (impl_around.j1 kj5 a1 x5_5 t306 a0_0 a0_1 a0_2) = some r := H
        have A18 := Aside0.mk A180
        clear A180
        have H' := Aside0.mk H
        clear H
        have hcz19_0 : wc.cell? ⟨gb300, 0, none⟩ = some (.int .i64 a0_0) := (bc BK300.out 0).trans rfl
        have hcz19_1 : wc.cell? ⟨gb300, 1, none⟩ = some (.int .i64 a0_1) := (bc BK300.out 1).trans rfl
        have hcz19_2 : wc.cell? ⟨gb300, 2, none⟩ = some (.string a0_2) := (bc BK300.out 2).trans rfl
        go_wp2_with (first | (go_at_call 95; (with_reducible refine (impl_isFree.calls a0_0 a0_1 a0_2 (wrap64 (a1 - 1)) t306 _ A18.out).mono ?_); rintro e w20 ⟨rfl, hb⟩; have n0_ := Aside0.mk (Kd.Rb (by (with_reducible repeat (first | apply Kd.Ra | apply Kd.Rn | apply Kd.Rd)); exact HO_5.out) hb); have n1_ := Aside0.mk (bb (g := gb300) (by first | (with_reducible exact BK300.out) | (with_reducible exact bN BK300.out _) | (with_reducible exact bd BK300.out) | ((with_reducible repeat first | apply bN | apply bd | apply ba); exact BK300.out)) hb); have n2_ := Aside0.mk (below_step (by repeat (first | (with_reducible first | exact HB.out | apply wa | apply wN | apply wd | refine ws ?_ GE300.out) | exact HB.out)) hb); clear HO_5; clear BK300; clear HB; have HO_5 := n0_; have BK300 := n1_; have HB := n2_; clear n0_ n1_ n2_; (try clear hb); (try clear hb2); (try clear hk); (try clear hi)))
        go_meet
        case rel => exact ⟨_, (t306), (by first | rfl | (simp; done) | (simp [*]; done)), H', ⟨by have := HJ5.out; first | omega | exact Nat.le_refl _⟩, ⟨by (with_reducible repeat (first | apply Kd.Ra | apply Kd.Rn | apply Kd.Rd)); exact HO_5.out⟩, ⟨by (with_reducible repeat first | apply bN | apply bd | apply ba); exact BK300.out⟩, ⟨by repeat (first | (with_reducible first | exact HB.out | apply wa | apply wN | apply wd | refine ws ?_ GE300.out) | exact HB.out)⟩⟩
      case rest =>
        clear HC15
        try clear c1
        try clear p2
        try clear c4
        try clear p6
        try clear c9
        try clear c12
        try clear c13
        try clear c15
        try clear c16
        try clear c16b0
        try clear c16b1
        try clear c17
        try clear c17b0
        try clear hcz10_0
        try clear hcz10_1
        try clear hcz10_2
        try clear hcz19_0
        try clear hcz19_1
        try clear hcz19_2
        try clear hcz21_0
        try clear hcz21_1
        try clear hcz21_2
        try clear hcz8_0
        try clear hcz8_1
        try clear hcz8_2
        try clear p2
        try clear p6
        obtain ⟨kq, x33_14, rfl, HA, HJ14, HO_5, BK300, HB⟩ := hcut
        cases kq with
        | zero => exact absurd HA.out (by simp [impl_around.j1])
        | succ kj14 =>
          have H := HA.out
          clear HA
          simp only [impl_around.j1] at H
          have HC22 := Aside0.mk H
          clear H
          go_upto_if 33 with (fail)
          go_cut [5] (fun v5 wc => ∃ (kq : Nat) (x5_21 : List Int), Aside0 (impl_around.j2 kq a1 x5_21 a0_0 a0_1 a0_2 = some r) ∧ Aside0 (kq ≤ kj14) ∧ Aside0 (Kd.R (Kd.int .i64) 3 wc w.heap.size (fun _ => True) v5 x5_21) ∧ Aside0 (wc.heap[gb300]? = some (.cells #[.int .i64 a0_0, .int .i64 a0_1, .string a0_2] 27 (0, 0))) ∧ Aside0 (Below w.heap.size w wc))
          case first =>
            have H := HC22.out
            clear HC22
            by_cases c23 : x33_14 = true
            rotate_left
            · replace c23 := Bool.eq_false_iff.mpr c23
              subst c23
              have H1 : (impl_around.j2 kj14 a1 x5_5 a0_0 a0_1 a0_2) = some r := by rw [if_neg (show ¬ (false = true) by decide)] at H; exact H
              clear H
              have H := H1
              clear H1
              have H' := Aside0.mk H
              clear H
              go_wp2
              go_meet
              case rel => exact ⟨_, (x5_5), H', ⟨by have := HJ5.out; have := HJ14.out; first | omega | exact Nat.le_refl _⟩, ⟨by (with_reducible repeat (first | apply Kd.Ra | apply Kd.Rn | apply Kd.Rd)); exact HO_5.out⟩, ⟨by (with_reducible repeat first | apply bN | apply bd | apply ba); exact BK300.out⟩, ⟨by repeat (first | (with_reducible first | exact HB.out | apply wa | apply wN | apply wd | refine ws ?_ GE300.out) | exact HB.out)⟩⟩
            subst c23
            have H1 : (if x5_5.length < 17592186044416 then (impl_around.j2 kj14 a1 (x5_5 ++ [wrap64 (a1 - 1)]) a0_0 a0_1 a0_2) else (none)) = some r := by rw [if_pos rfl] at H; exact H
            clear H
            have H := H1
            clear H1
            by_cases c24 : x5_5.length < 17592186044416
            rotate_left
            · rw [if_neg c24] at H
              exact absurd H (by simp)
            rw [if_pos c24] at H
            have LMc24 := Aside0.mk c24
            clear c24
            obtain ⟨y307, hy307⟩ : ∃ y_ : List Int, y_ = (x5_5 ++ [wrap64 (a1 - 1)]) := ⟨_, rfl⟩
            replace H : (impl_around.j2 kj14 a1 y307 a0_0 a0_1 a0_2) = some r := by first | (rw [hy307]; with_reducible exact H) | (have H2_ := (Option.bind_some _ _).symm.trans H; rw [hy307]; with_reducible exact H2_) | (have H2_ := (Option.bind_some _ _).symm.trans H; with_reducible exact H2_) | with_reducible exact H | (rw [hy307]; exact H) | exact H
            have Ny307 := Aside0.mk hy307
            clear hy307
            have H' := Aside0.mk H
            clear H
            go_wp2_with (first | ((with_reducible refine gate_builtin (b := .append) (xs := #[.tmp 34, .tmp 37]) rfl ?_); at_builtin; refine Kd.R_append (Kd.int .i64) (w0 := w) w.heap.size rfl (.tmp 34) (.tmp 37) 31 3 (.int .i64 0) 8 rfl Try.underlying31 info3 rfl (by decide) (by omega) u5 x5_5 (wrap64 (a1 - 1)) [.int .i64 (wrap64 (a1 - 1))] (fun _ => True) (fun _ => False) rfl rfl ?aP (fun _ hk => hk.elim) ?aF ?aO ?aB ?aS ?aL ?_; (case aP => exact rfl); (case aB => exact (by repeat (first | (with_reducible first | exact HB.out | apply wa | apply wN | apply wd | refine ws ?_ GE300.out) | exact HB.out))); (case aF => exact (fun _ _ => trivial)); (case aO => exact (by (with_reducible repeat (first | apply Kd.Ra | apply Kd.Rn | apply Kd.Rd)); exact HO_5.out)); (case aS => exact (below_size (by repeat (first | (with_reducible first | exact HB.out | apply wa | apply wN | apply wd | refine ws ?_ GE300.out) | exact HB.out)))); (case aL => have := LMc24.out; omega); intro v308 w25 ho hb hg hat; rw [← Ny307.out] at ho; have n0_ := Aside0.mk (blk_grown (g := gb300) (by (with_reducible repeat first | apply bN | apply bd | apply ba); exact BK300.out) hg (Kd.R_ne HO_5.out BK300.out (by decide))); have n1_ := Aside0.mk (hb); have n2_ := Aside0.mk (ho); clear BK300; clear HB; clear HO_5; have BK300 := n0_; have HB := n1_; have HO309 := n2_; clear n0_ n1_ n2_; clear ho hb hg hat))
            go_meet
            case rel => exact ⟨_, (y307), H', ⟨by have := HJ5.out; have := HJ14.out; first | omega | exact Nat.le_refl _⟩, ⟨by (with_reducible repeat (first | apply Kd.Ra | apply Kd.Rn | apply Kd.Rd)); exact HO309.out⟩, ⟨by (with_reducible repeat first | apply bN | apply bd | apply ba); exact BK300.out⟩, ⟨by repeat (first | (with_reducible first | exact HB.out | apply wa | apply wN | apply wd | refine ws ?_ GE300.out) | exact HB.out)⟩⟩
          case rest =>
            clear HC22
            try clear c1
            try clear c2
            try clear p2
            try clear c4
            try clear p6
            try clear c9
            try clear c12
            try clear c13
            try clear c15
            try clear c16
            try clear c16b0
            try clear c16b1
            try clear c17
            try clear c17b0
            try clear c23
            try clear c24
            try clear hcz10_0
            try clear hcz10_1
            try clear hcz10_2
            try clear hcz19_0
            try clear hcz19_1
            try clear hcz19_2
            try clear hcz21_0
            try clear hcz21_1
            try clear hcz21_2
            try clear hcz8_0
            try clear hcz8_1
            try clear hcz8_2
            try clear p2
            try clear p6
            obtain ⟨kq, x5_21, HA, HJ21, HO_5, BK300, HB⟩ := hcut
            cases kq with
            | zero => exact absurd HA.out (by simp [impl_around.j2])
            | succ kj21 =>
              have H := HA.out
              clear HA
              simp only [impl_around.j2] at H
              have HC26 := Aside0.mk H
              clear H
              go_upto_region 9 with (fail)
              go_cut [52] (fun v52 wc => ∃ (kq : Nat) (x52_25 : Bool), v52 = .bool x52_25 ∧ Aside0 (impl_around.j3 kq a1 x5_21 x52_25 a0_0 a0_1 a0_2 = some r) ∧ Aside0 (kq ≤ kj21) ∧ Aside0 (Kd.R (Kd.int .i64) 3 wc w.heap.size (fun _ => True) u5 x5_21) ∧ Aside0 (wc.heap[gb300]? = some (.cells #[.int .i64 a0_0, .int .i64 a0_1, .string a0_2] 27 (0, 0))) ∧ Aside0 (Below w.heap.size w wc))
              case first =>
                have H := HC26.out
                clear HC26
                by_cases c27 : a0_0 = 0
                · rw [if_pos c27] at H
                  exact absurd H (by simp)
                rw [if_neg c27] at H
                have c27b0 : (a0_0 == 0) = false := beq_eq_false_iff_ne.mpr c27
                have c27b1 : (a0_0 != 0) = true := bne_iff_ne.mpr c27
                (first | rw [c27b0] | (simp only [i64_w, i32_w]; rw [c27b0]) | skip)
                by_cases c28 : (Int.tmod a1 a0_0) < (wrap64 (a0_0 - 1))
                rotate_left
                · rw [if_neg c28] at H
                  have c28b0 : decide ((Int.tmod a1 a0_0) < (wrap64 (a0_0 - 1))) = false := decide_eq_false c28
                  clear c28
                  have H' := Aside0.mk H
                  clear H
                  try go_wp2
                  have n0_ := Aside0.mk (Kd.Rd HO_5.out)
                  have n1_ := Aside0.mk (bd BK300.out)
                  have n2_ := Aside0.mk (wd HB.out)
                  clear HO_5
                  clear BK300
                  clear HB
                  have HO_5 := n0_
                  have BK300 := n1_
                  have HB := n2_
                  clear n0_ n1_ n2_
                  refine start_ (n := 14) (S := fun w' => w'.cell? ⟨gb300, 0, none⟩ = some (.int .i64 a0_0)) (ds := []) #[false, false, false, false, false, false, false, false, false, false, false, false, false, false] (by kernel_rfl) rfl rfl ((bc BK300.out 0).trans rfl) (fun hHeld => ?_); refine with_tabW impl_around.tab9 impl_around.bits9 (fun HT_ HW_ => ?_)
                  generalize wc.drew = w32 at HO_5 BK300 HB hHeld ⊢
                  refine plan_ [(0, 39, 0), (1, 40, 0), (4, 43, 0), (2, 41, 2), (3, 42, 0), (5, 44, 2), (6, 45, 0), (7, 46, 0), (8, 47, 0), (9, 48, 1), (10, 49, 1), (11, 50, 1), (12, 51, 1), (13, 52, 0)] ?_
                  repeat (first | (refine p0_ (v := ?_) (a' := ?_) HT_.out (by rfl) (by rfl) (by rfl) (by kernel_rfl) (by exact fun _ _ _ h => h) (Or.inl ⟨by rfl, ?_⟩) ?_ ?_; rotate_left; (· (intro w'; go_simp; with_reducible rfl)); rotate_left; (· (simp only [Act.put, List.setIfInBounds_toArray, List.set_cons_zero, List.set_cons_succ, i64_w, i32_w]; rfl))) | (refine p1_ (a' := ?_) HT_.out (by rfl) (by rfl) (by rfl) (by kernel_rfl) (by exact fun _ _ _ h => h) (Or.inr ⟨by rfl, rfl⟩) ?_ ?_; rotate_left; (· (simp only [Act.put, List.setIfInBounds_toArray, List.set_cons_zero, List.set_cons_succ, i64_w, i32_w]; rfl))) | (refine p2_ (v := ?_) (a' := ?_) HT_.out HW_.out (by rfl) (by rfl) (by rfl) (by kernel_rfl) (by exact fun _ _ _ h => h) (Or.inl ⟨by rfl, ?_⟩) hHeld ?_ ?_; rotate_left; (· (intro w' s0; go_simp; with_reducible rfl)); rotate_left; (· (simp only [Act.put, List.setIfInBounds_toArray, List.set_cons_zero, List.set_cons_succ, i64_w, i32_w]; rfl))))
                  with_reducible refine end_ ?_
                  refine done_ (done_of HT_.out (by kernel_rfl)) ?_
                  try go_wp2
                  go_meet
                  case rel => exact ⟨_, (false), (by first | rfl | (simp; done) | (simp [*]; done)), H', ⟨by have := HJ5.out; have := HJ14.out; have := HJ21.out; first | omega | exact Nat.le_refl _⟩, ⟨by (with_reducible repeat (first | apply Kd.Ra | apply Kd.Rn | apply Kd.Rd)); exact HO_5.out⟩, ⟨by (with_reducible repeat first | apply bN | apply bd | apply ba); exact BK300.out⟩, ⟨by repeat (first | (with_reducible first | exact HB.out | apply wa | apply wN | apply wd | refine ws ?_ GE300.out) | exact HB.out)⟩⟩
                rw [if_pos c28] at H
                have c28b0 : decide ((Int.tmod a1 a0_0) < (wrap64 (a0_0 - 1))) = true := decide_eq_true c28
                clear c28
                replace H := Option.bind_eq_some_iff.mp H
                obtain ⟨t310, A290, H⟩ := H
                replace H : (impl_around.j3 kj21 a1 x5_21 t310 a0_0 a0_1 a0_2) = some r := H
                have A29 := Aside0.mk A290
                clear A290
                have H' := Aside0.mk H
                clear H
                try go_wp2
                have n0_ := Aside0.mk (Kd.Rd HO_5.out)
                have n1_ := Aside0.mk (bd BK300.out)
                have n2_ := Aside0.mk (wd HB.out)
                clear HO_5
                clear BK300
                clear HB
                have HO_5 := n0_
                have BK300 := n1_
                have HB := n2_
                clear n0_ n1_ n2_
                refine start_ (n := 14) (S := fun w' => w'.cell? ⟨gb300, 0, none⟩ = some (.int .i64 a0_0) ∧ w'.cell? ⟨gb300, 1, none⟩ = some (.int .i64 a0_1) ∧ w'.cell? ⟨gb300, 2, none⟩ = some (.string a0_2)) (ds := []) #[false, false, false, false, false, false, false, false, false, false, false, false, false, false] (by kernel_rfl) rfl rfl ⟨(bc BK300.out 0).trans rfl, (bc BK300.out 1).trans rfl, (bc BK300.out 2).trans rfl⟩ (fun hHeld => ?_); refine with_tabW impl_around.tab9 impl_around.bits9 (fun HT_ HW_ => ?_)
                generalize wc.drew = w30 at HO_5 BK300 HB hHeld ⊢
                refine plan_ [(0, 39, 0), (1, 40, 0), (4, 43, 0), (2, 41, 2), (3, 42, 0), (5, 44, 2), (6, 45, 0), (7, 46, 0), (8, 47, 0), (10, 49, 0), (11, 50, 0), (9, 48, 2)] ?_
                repeat (first | (refine p0_ (v := ?_) (a' := ?_) HT_.out (by rfl) (by rfl) (by rfl) (by kernel_rfl) (by exact fun _ _ _ h => h) (Or.inl ⟨by rfl, ?_⟩) ?_ ?_; rotate_left; (· (intro w'; go_simp; with_reducible rfl)); rotate_left; (· (simp only [Act.put, List.setIfInBounds_toArray, List.set_cons_zero, List.set_cons_succ, i64_w, i32_w]; rfl))) | (refine p2_ (v := ?_) (a' := ?_) HT_.out HW_.out (by rfl) (by rfl) (by rfl) (by kernel_rfl) (by exact fun _ _ _ h => h) (Or.inl ⟨by rfl, ?_⟩) hHeld ?_ ?_; rotate_left; (· (rintro w' ⟨s0, s1, s2⟩; go_simp; with_reducible rfl)); rotate_left; (· (simp only [Act.put, List.setIfInBounds_toArray, List.set_cons_zero, List.set_cons_succ, i64_w, i32_w]; rfl))))
                with_reducible refine end_ ?_
                refine one_ (i := 12) (N := some 51) #[true, true, true, true, true, true, true, true, true, true, true, true, true, false] rfl rfl (one_of HT_.out (by kernel_rfl)) (by decide) (fun K hK => ?_)
                refine goes_ Try.func95 (by kernel_rfl) rfl #[.agg #[.int .i64 a0_0, .int .i64 a0_1, .string a0_2], .int .i64 (wrap64 (a1 + 1))] (by rfl) rfl rfl (by (try simp only [List.map_toArray, List.map_cons, List.map_nil]); first | done | rfl | (simp only [List.length_drop, List.length_take]; rfl)) ?_
                with_reducible refine (impl_isFree.calls a0_0 a0_1 a0_2 (wrap64 (a1 + 1)) t310 _ A29.out).mono ?_
                rintro e w31 ⟨rfl, hb⟩
                refine ⟨_, rfl, ?_⟩
                have n0_ := Aside0.mk (Kd.Rb (by (with_reducible repeat (first | apply Kd.Ra | apply Kd.Rn | apply Kd.Rd)); exact HO_5.out) hb)
                have n1_ := Aside0.mk (bb (g := gb300) (by first | (with_reducible exact BK300.out) | (with_reducible exact bN BK300.out _) | (with_reducible exact bd BK300.out) | ((with_reducible repeat first | apply bN | apply bd | apply ba); exact BK300.out)) hb)
                have n2_ := Aside0.mk (below_step (by repeat (first | (with_reducible first | exact HB.out | apply wa | apply wN | apply wd | refine ws ?_ GE300.out) | exact HB.out)) hb)
                clear HO_5
                clear BK300
                clear HB
                have HO_5 := n0_
                have BK300 := n1_
                have HB := n2_
                clear n0_ n1_ n2_
                (try clear hb)
                (try clear hb2)
                (try clear hk)
                (try clear hi)
                refine hK.out _ _ ⟨(bc BK300.out 0).trans rfl, (bc BK300.out 1).trans rfl, (bc BK300.out 2).trans rfl⟩ (fun hHeld => ?_)
                clear hK K
                refine norm_ (a' := ?_) ?_ ?_
                rotate_left
                · show Act.put _ (some 51) _ = _
                  simp only [Act.put, List.setIfInBounds_toArray, List.set_cons_zero, List.set_cons_succ, i64_w, i32_w]
                  rfl
                refine pure_ (i := 13) (N := some 52) (v := ?_) (a' := ?_) #[true, true, true, true, true, true, true, true, true, true, true, true, true, true] rfl rfl (any_of HT_.out (by kernel_rfl)) (fun _ _ _ h => h) (Or.inl ⟨by rfl, ?_⟩) ?_ ?_
                rotate_left
                · intro w'
                  go_simp
                  with_reducible rfl
                rotate_left
                · simp only [Act.put, List.setIfInBounds_toArray, List.set_cons_zero, List.set_cons_succ, i64_w, i32_w]
                  rfl
                refine done_ (done_of HT_.out (by kernel_rfl)) ?_
                try go_wp2
                go_meet
                case rel => exact ⟨_, (t310), (by first | rfl | (simp; done) | (simp [*]; done)), H', ⟨by have := HJ5.out; have := HJ14.out; have := HJ21.out; first | omega | exact Nat.le_refl _⟩, ⟨by (with_reducible repeat (first | apply Kd.Ra | apply Kd.Rn | apply Kd.Rd)); exact HO_5.out⟩, ⟨by (with_reducible repeat first | apply bN | apply bd | apply ba); exact BK300.out⟩, ⟨by repeat (first | (with_reducible first | exact HB.out | apply wa | apply wN | apply wd | refine ws ?_ GE300.out) | exact HB.out)⟩⟩
              case rest =>
                clear HC26
                try clear c1
                try clear c2
                try clear p2
                try clear c4
                try clear p6
                try clear c9
                try clear c12
                try clear c13
                try clear c15
                try clear c16
                try clear c16b0
                try clear c16b1
                try clear c17
                try clear c17b0
                try clear c23
                try clear c24
                try clear c27
                try clear c27b0
                try clear c27b1
                try clear c28
                try clear c28b0
                try clear hcz10_0
                try clear hcz10_1
                try clear hcz10_2
                try clear hcz19_0
                try clear hcz19_1
                try clear hcz19_2
                try clear hcz21_0
                try clear hcz21_1
                try clear hcz21_2
                try clear hcz8_0
                try clear hcz8_1
                try clear hcz8_2
                try clear p2
                try clear p6
                obtain ⟨kq, x52_25, rfl, HA, HJ25, HO_5, BK300, HB⟩ := hcut
                cases kq with
                | zero => exact absurd HA.out (by simp [impl_around.j3])
                | succ kj25 =>
                  have H := HA.out
                  clear HA
                  simp only [impl_around.j3] at H
                  by_cases c33 : x52_25 = true
                  rotate_left
                  · replace c33 := Bool.eq_false_iff.mpr c33
                    subst c33
                    have H1 : ((impl_isFree.f a0_0 a0_1 a0_2 (wrap64 (a1 + a0_0))).bind fun t318 => (if t318 = true then (if x5_21.length < 17592186044416 then (some (x5_21 ++ [wrap64 (a1 + a0_0)])) else (none)) else (some x5_21))) = some r := by rw [if_neg (show ¬ (false = true) by decide)] at H; exact H
                    clear H
                    have H := H1
                    clear H1
                    replace H := Option.bind_eq_some_iff.mp H
                    obtain ⟨t318, A450, H⟩ := H
                    replace H : (if t318 = true then (if x5_21.length < 17592186044416 then (some (x5_21 ++ [wrap64 (a1 + a0_0)])) else (none)) else (some x5_21)) = some r := H
                    have A45 := Aside0.mk A450
                    clear A450
                    by_cases c46 : t318 = true
                    rotate_left
                    · replace c46 := Bool.eq_false_iff.mpr c46
                      subst c46
                      have H1 : (some x5_21) = some r := by rw [if_neg (show ¬ (false = true) by decide)] at H; exact H
                      clear H
                      have H := H1
                      clear H1
                      obtain rfl := Option.some.inj H
                      have hcz51_0 : wc.cell? ⟨gb300, 0, none⟩ = some (.int .i64 a0_0) := (bc BK300.out 0).trans rfl
                      have hcz51_1 : wc.cell? ⟨gb300, 1, none⟩ = some (.int .i64 a0_1) := (bc BK300.out 1).trans rfl
                      have hcz51_2 : wc.cell? ⟨gb300, 2, none⟩ = some (.string a0_2) := (bc BK300.out 2).trans rfl
                      go_wp2_with (first | ((with_reducible refine gate_callee (f := 95) rfl ?_); refine goesL_ (some 64) rfl rfl Try.func95 (by kernel_rfl) rfl #[.agg #[.int .i64 a0_0, .int .i64 a0_1, .string a0_2], .int .i64 (wrap64 (a1 + a0_0))] rfl (by (try simp only [List.map_toArray, List.map_cons, List.map_nil]); first | done | rfl | (simp only [List.length_drop, List.length_take]; rfl)) ?_; (with_reducible refine (impl_isFree.calls a0_0 a0_1 a0_2 (wrap64 (a1 + a0_0)) false _ A45.out).mono ?_); rintro e w52 ⟨rfl, hb⟩; refine ⟨_, rfl, ?_⟩; have n0_ := Aside0.mk (Kd.Rb (by (with_reducible repeat (first | apply Kd.Ra | apply Kd.Rn | apply Kd.Rd)); exact HO_5.out) hb); have n1_ := Aside0.mk (bb (g := gb300) (by first | (with_reducible exact BK300.out) | (with_reducible exact bN BK300.out _) | (with_reducible exact bd BK300.out) | ((with_reducible repeat first | apply bN | apply bd | apply ba); exact BK300.out)) hb); have n2_ := Aside0.mk (below_step (by repeat (first | (with_reducible first | exact HB.out | apply wa | apply wN | apply wd | refine ws ?_ GE300.out) | exact HB.out)) hb); clear HO_5; clear BK300; clear HB; have HO_5 := n0_; have BK300 := n1_; have HB := n2_; clear n0_ n1_ n2_; (try clear hb); (try clear hb2); (try clear hk); (try clear hi)))
                      go_ret
                      exact ⟨_, by first | rfl | (simp [errW_none, errW_some] <;> rfl) | (simp [*, errW_none, errW_some] <;> rfl), by (with_reducible repeat (first | apply Kd.Ra | apply Kd.Rn | apply Kd.Rd)); exact HO_5.out, by repeat (first | (with_reducible first | exact HB.out | apply wa | apply wN | apply wd | refine ws ?_ GE300.out) | exact HB.out)⟩
                    subst c46
                    have H1 : (if x5_21.length < 17592186044416 then (some (x5_21 ++ [wrap64 (a1 + a0_0)])) else (none)) = some r := by rw [if_pos rfl] at H; exact H
                    clear H
                    have H := H1
                    clear H1
                    by_cases c47 : x5_21.length < 17592186044416
                    rotate_left
                    · rw [if_neg c47] at H
                      exact absurd H (by simp)
                    rw [if_pos c47] at H
                    have LMc47 := Aside0.mk c47
                    clear c47
                    obtain ⟨y319, hy319⟩ : ∃ y_ : List Int, y_ = (x5_21 ++ [wrap64 (a1 + a0_0)]) := ⟨_, rfl⟩
                    replace H : (some y319) = some r := by first | (rw [hy319]; with_reducible exact H) | (have H2_ := (Option.bind_some _ _).symm.trans H; rw [hy319]; with_reducible exact H2_) | (have H2_ := (Option.bind_some _ _).symm.trans H; with_reducible exact H2_) | with_reducible exact H | (rw [hy319]; exact H) | exact H
                    have Ny319 := Aside0.mk hy319
                    clear hy319
                    obtain rfl := Option.some.inj H
                    have hcz48_0 : wc.cell? ⟨gb300, 0, none⟩ = some (.int .i64 a0_0) := (bc BK300.out 0).trans rfl
                    have hcz48_1 : wc.cell? ⟨gb300, 1, none⟩ = some (.int .i64 a0_1) := (bc BK300.out 1).trans rfl
                    have hcz48_2 : wc.cell? ⟨gb300, 2, none⟩ = some (.string a0_2) := (bc BK300.out 2).trans rfl
                    go_wp2_with (first | ((with_reducible refine gate_callee (f := 95) rfl ?_); refine goesL_ (some 64) rfl rfl Try.func95 (by kernel_rfl) rfl #[.agg #[.int .i64 a0_0, .int .i64 a0_1, .string a0_2], .int .i64 (wrap64 (a1 + a0_0))] rfl (by (try simp only [List.map_toArray, List.map_cons, List.map_nil]); first | done | rfl | (simp only [List.length_drop, List.length_take]; rfl)) ?_; (with_reducible refine (impl_isFree.calls a0_0 a0_1 a0_2 (wrap64 (a1 + a0_0)) true _ A45.out).mono ?_); rintro e w49 ⟨rfl, hb⟩; refine ⟨_, rfl, ?_⟩; have n0_ := Aside0.mk (Kd.Rb (by (with_reducible repeat (first | apply Kd.Ra | apply Kd.Rn | apply Kd.Rd)); exact HO_5.out) hb); have n1_ := Aside0.mk (bb (g := gb300) (by first | (with_reducible exact BK300.out) | (with_reducible exact bN BK300.out _) | (with_reducible exact bd BK300.out) | ((with_reducible repeat first | apply bN | apply bd | apply ba); exact BK300.out)) hb); have n2_ := Aside0.mk (below_step (by repeat (first | (with_reducible first | exact HB.out | apply wa | apply wN | apply wd | refine ws ?_ GE300.out) | exact HB.out)) hb); clear HO_5; clear BK300; clear HB; have HO_5 := n0_; have BK300 := n1_; have HB := n2_; clear n0_ n1_ n2_; (try clear hb); (try clear hb2); (try clear hk); (try clear hi)) | ((with_reducible refine gate_builtin (b := .append) (xs := #[.tmp 65, .tmp 67]) rfl ?_); at_builtin; refine Kd.R_append (Kd.int .i64) (w0 := w) w.heap.size rfl (.tmp 65) (.tmp 67) 31 3 (.int .i64 0) 8 rfl Try.underlying31 info3 rfl (by decide) (by omega) u5 x5_21 (wrap64 (a1 + a0_0)) [.int .i64 (wrap64 (a1 + a0_0))] (fun _ => True) (fun _ => False) rfl rfl ?aP (fun _ hk => hk.elim) ?aF ?aO ?aB ?aS ?aL ?_; (case aP => exact rfl); (case aB => exact (by repeat (first | (with_reducible first | exact HB.out | apply wa | apply wN | apply wd | refine ws ?_ GE300.out) | exact HB.out))); (case aF => exact (fun _ _ => trivial)); (case aO => exact (by (with_reducible repeat (first | apply Kd.Ra | apply Kd.Rn | apply Kd.Rd)); exact HO_5.out)); (case aS => exact (below_size (by repeat (first | (with_reducible first | exact HB.out | apply wa | apply wN | apply wd | refine ws ?_ GE300.out) | exact HB.out)))); (case aL => have := LMc47.out; omega); intro v320 w50 ho hb hg hat; rw [← Ny319.out] at ho; have n0_ := Aside0.mk (blk_grown (g := gb300) (by (with_reducible repeat first | apply bN | apply bd | apply ba); exact BK300.out) hg (Kd.R_ne HO_5.out BK300.out (by decide))); have n1_ := Aside0.mk (hb); have n2_ := Aside0.mk (ho); clear BK300; clear HB; clear HO_5; have BK300 := n0_; have HB := n1_; have HO321 := n2_; clear n0_ n1_ n2_; clear ho hb hg hat))
                    go_ret
                    exact ⟨_, by first | rfl | (simp [errW_none, errW_some] <;> rfl) | (simp [*, errW_none, errW_some] <;> rfl), by (with_reducible repeat (first | apply Kd.Ra | apply Kd.Rn | apply Kd.Rd)); exact HO321.out, by repeat (first | (with_reducible first | exact HB.out | apply wa | apply wN | apply wd | refine ws ?_ GE300.out) | exact HB.out)⟩
                  subst c33
                  have H1 : (if x5_21.length < 17592186044416 then ((some (x5_21 ++ [wrap64 (a1 + 1)] : List Int)).bind fun y311 => ((impl_isFree.f a0_0 a0_1 a0_2 (wrap64 (a1 + a0_0))).bind fun t314 => (if t314 = true then (if y311.length < 17592186044416 then (some (y311 ++ [wrap64 (a1 + a0_0)])) else (none)) else (some y311)))) else (none)) = some r := by rw [if_pos rfl] at H; exact H
                  clear H
                  have H := H1
                  clear H1
                  by_cases c34 : x5_21.length < 17592186044416
                  rotate_left
                  · rw [if_neg c34] at H
                    exact absurd H (by simp)
                  rw [if_pos c34] at H
                  have LMc34 := Aside0.mk c34
                  clear c34
                  obtain ⟨y311, hy311⟩ : ∃ y_ : List Int, y_ = (x5_21 ++ [wrap64 (a1 + 1)]) := ⟨_, rfl⟩
                  replace H : ((impl_isFree.f a0_0 a0_1 a0_2 (wrap64 (a1 + a0_0))).bind fun t314 => (if t314 = true then (if y311.length < 17592186044416 then (some (y311 ++ [wrap64 (a1 + a0_0)])) else (none)) else (some y311))) = some r := by first | (rw [hy311]; with_reducible exact H) | (have H2_ := (Option.bind_some _ _).symm.trans H; rw [hy311]; with_reducible exact H2_) | (have H2_ := (Option.bind_some _ _).symm.trans H; with_reducible exact H2_) | with_reducible exact H | (rw [hy311]; exact H) | exact H
                  have Ny311 := Aside0.mk hy311
                  clear hy311
                  replace H := Option.bind_eq_some_iff.mp H
                  obtain ⟨t314, A350, H⟩ := H
                  replace H : (if t314 = true then (if y311.length < 17592186044416 then (some (y311 ++ [wrap64 (a1 + a0_0)])) else (none)) else (some y311)) = some r := H
                  have A35 := Aside0.mk A350
                  clear A350
                  by_cases c36 : t314 = true
                  rotate_left
                  · replace c36 := Bool.eq_false_iff.mpr c36
                    subst c36
                    have H1 : (some y311) = some r := by rw [if_neg (show ¬ (false = true) by decide)] at H; exact H
                    clear H
                    have H := H1
                    clear H1
                    obtain rfl := Option.some.inj H
                    go_wp2_with (first | ((with_reducible refine gate_builtin (b := .append) (xs := #[.tmp 53, .tmp 56]) rfl ?_); at_builtin; refine Kd.R_append (Kd.int .i64) (w0 := w) w.heap.size rfl (.tmp 53) (.tmp 56) 31 3 (.int .i64 0) 8 rfl Try.underlying31 info3 rfl (by decide) (by omega) u5 x5_21 (wrap64 (a1 + 1)) [.int .i64 (wrap64 (a1 + 1))] (fun _ => True) (fun _ => False) rfl rfl ?aP (fun _ hk => hk.elim) ?aF ?aO ?aB ?aS ?aL ?_; (case aP => exact rfl); (case aB => exact (by repeat (first | (with_reducible first | exact HB.out | apply wa | apply wN | apply wd | refine ws ?_ GE300.out) | exact HB.out))); (case aF => exact (fun _ _ => trivial)); (case aO => exact (by (with_reducible repeat (first | apply Kd.Ra | apply Kd.Rn | apply Kd.Rd)); exact HO_5.out)); (case aS => exact (below_size (by repeat (first | (with_reducible first | exact HB.out | apply wa | apply wN | apply wd | refine ws ?_ GE300.out) | exact HB.out)))); (case aL => have := LMc34.out; omega); intro v312 w42 ho hb hg hat; rw [← Ny311.out] at ho; have n0_ := Aside0.mk (blk_grown (g := gb300) (by (with_reducible repeat first | apply bN | apply bd | apply ba); exact BK300.out) hg (Kd.R_ne HO_5.out BK300.out (by decide))); have n1_ := Aside0.mk (hb); have n2_ := Aside0.mk (ho); clear BK300; clear HB; clear HO_5; have BK300 := n0_; have HB := n1_; have HO313 := n2_; clear n0_ n1_ n2_; clear ho hb hg hat; have hcz43_0 : w42.cell? ⟨gb300, 0, none⟩ = some (.int .i64 a0_0) := (bc BK300.out 0).trans rfl; have hcz43_1 : w42.cell? ⟨gb300, 1, none⟩ = some (.int .i64 a0_1) := (bc BK300.out 1).trans rfl; have hcz43_2 : w42.cell? ⟨gb300, 2, none⟩ = some (.string a0_2) := (bc BK300.out 2).trans rfl) | ((with_reducible refine gate_callee (f := 95) rfl ?_); refine goesL_ (some 64) rfl rfl Try.func95 (by kernel_rfl) rfl #[.agg #[.int .i64 a0_0, .int .i64 a0_1, .string a0_2], .int .i64 (wrap64 (a1 + a0_0))] rfl (by (try simp only [List.map_toArray, List.map_cons, List.map_nil]); first | done | rfl | (simp only [List.length_drop, List.length_take]; rfl)) ?_; (with_reducible refine (impl_isFree.calls a0_0 a0_1 a0_2 (wrap64 (a1 + a0_0)) false _ A35.out).mono ?_); rintro e w44 ⟨rfl, hb⟩; refine ⟨_, rfl, ?_⟩; have n0_ := Aside0.mk (Kd.Rb (by (with_reducible repeat (first | apply Kd.Ra | apply Kd.Rn | apply Kd.Rd)); exact HO313.out) hb); have n1_ := Aside0.mk (bb (g := gb300) (by first | (with_reducible exact BK300.out) | (with_reducible exact bN BK300.out _) | (with_reducible exact bd BK300.out) | ((with_reducible repeat first | apply bN | apply bd | apply ba); exact BK300.out)) hb); have n2_ := Aside0.mk (below_step (by repeat (first | (with_reducible first | exact HB.out | apply wa | apply wN | apply wd | refine ws ?_ GE300.out) | exact HB.out)) hb); clear HO313; clear BK300; clear HB; have HO313 := n0_; have BK300 := n1_; have HB := n2_; clear n0_ n1_ n2_; (try clear hb); (try clear hb2); (try clear hk); (try clear hi)))
                    go_ret
                    exact ⟨_, by first | rfl | (simp [errW_none, errW_some] <;> rfl) | (simp [*, errW_none, errW_some] <;> rfl), by (with_reducible repeat (first | apply Kd.Ra | apply Kd.Rn | apply Kd.Rd)); exact HO313.out, by repeat (first | (with_reducible first | exact HB.out | apply wa | apply wN | apply wd | refine ws ?_ GE300.out) | exact HB.out)⟩
                  subst c36
                  have H1 : (if y311.length < 17592186044416 then (some (y311 ++ [wrap64 (a1 + a0_0)])) else (none)) = some r := by rw [if_pos rfl] at H; exact H
                  clear H
                  have H := H1
                  clear H1
                  by_cases c37 : y311.length < 17592186044416
                  rotate_left
                  · rw [if_neg c37] at H
                    exact absurd H (by simp)
                  rw [if_pos c37] at H
                  have LMc37 := Aside0.mk c37
                  clear c37
                  obtain ⟨y315, hy315⟩ : ∃ y_ : List Int, y_ = (y311 ++ [wrap64 (a1 + a0_0)]) := ⟨_, rfl⟩
                  replace H : (some y315) = some r := by first | (rw [hy315]; with_reducible exact H) | (have H2_ := (Option.bind_some _ _).symm.trans H; rw [hy315]; with_reducible exact H2_) | (have H2_ := (Option.bind_some _ _).symm.trans H; with_reducible exact H2_) | with_reducible exact H | (rw [hy315]; exact H) | exact H
                  have Ny315 := Aside0.mk hy315
                  clear hy315
                  obtain rfl := Option.some.inj H
                  go_wp2_with (first | ((with_reducible refine gate_builtin (b := .append) (xs := #[.tmp 53, .tmp 56]) rfl ?_); at_builtin; refine Kd.R_append (Kd.int .i64) (w0 := w) w.heap.size rfl (.tmp 53) (.tmp 56) 31 3 (.int .i64 0) 8 rfl Try.underlying31 info3 rfl (by decide) (by omega) u5 x5_21 (wrap64 (a1 + 1)) [.int .i64 (wrap64 (a1 + 1))] (fun _ => True) (fun _ => False) rfl rfl ?aP (fun _ hk => hk.elim) ?aF ?aO ?aB ?aS ?aL ?_; (case aP => exact rfl); (case aB => exact (by repeat (first | (with_reducible first | exact HB.out | apply wa | apply wN | apply wd | refine ws ?_ GE300.out) | exact HB.out))); (case aF => exact (fun _ _ => trivial)); (case aO => exact (by (with_reducible repeat (first | apply Kd.Ra | apply Kd.Rn | apply Kd.Rd)); exact HO_5.out)); (case aS => exact (below_size (by repeat (first | (with_reducible first | exact HB.out | apply wa | apply wN | apply wd | refine ws ?_ GE300.out) | exact HB.out)))); (case aL => have := LMc34.out; omega); intro v312 w38 ho hb hg hat; rw [← Ny311.out] at ho; have n0_ := Aside0.mk (blk_grown (g := gb300) (by (with_reducible repeat first | apply bN | apply bd | apply ba); exact BK300.out) hg (Kd.R_ne HO_5.out BK300.out (by decide))); have n1_ := Aside0.mk (hb); have n2_ := Aside0.mk (ho); clear BK300; clear HB; clear HO_5; have BK300 := n0_; have HB := n1_; have HO313 := n2_; clear n0_ n1_ n2_; clear ho hb hg hat; have hcz39_0 : w38.cell? ⟨gb300, 0, none⟩ = some (.int .i64 a0_0) := (bc BK300.out 0).trans rfl; have hcz39_1 : w38.cell? ⟨gb300, 1, none⟩ = some (.int .i64 a0_1) := (bc BK300.out 1).trans rfl; have hcz39_2 : w38.cell? ⟨gb300, 2, none⟩ = some (.string a0_2) := (bc BK300.out 2).trans rfl) | ((with_reducible refine gate_callee (f := 95) rfl ?_); refine goesL_ (some 64) rfl rfl Try.func95 (by kernel_rfl) rfl #[.agg #[.int .i64 a0_0, .int .i64 a0_1, .string a0_2], .int .i64 (wrap64 (a1 + a0_0))] rfl (by (try simp only [List.map_toArray, List.map_cons, List.map_nil]); first | done | rfl | (simp only [List.length_drop, List.length_take]; rfl)) ?_; (with_reducible refine (impl_isFree.calls a0_0 a0_1 a0_2 (wrap64 (a1 + a0_0)) true _ A35.out).mono ?_); rintro e w40 ⟨rfl, hb⟩; refine ⟨_, rfl, ?_⟩; have n0_ := Aside0.mk (Kd.Rb (by (with_reducible repeat (first | apply Kd.Ra | apply Kd.Rn | apply Kd.Rd)); exact HO313.out) hb); have n1_ := Aside0.mk (bb (g := gb300) (by first | (with_reducible exact BK300.out) | (with_reducible exact bN BK300.out _) | (with_reducible exact bd BK300.out) | ((with_reducible repeat first | apply bN | apply bd | apply ba); exact BK300.out)) hb); have n2_ := Aside0.mk (below_step (by repeat (first | (with_reducible first | exact HB.out | apply wa | apply wN | apply wd | refine ws ?_ GE300.out) | exact HB.out)) hb); clear HO313; clear BK300; clear HB; have HO313 := n0_; have BK300 := n1_; have HB := n2_; clear n0_ n1_ n2_; (try clear hb); (try clear hb2); (try clear hk); (try clear hi)) | ((with_reducible refine gate_builtin (b := .append) (xs := #[.tmp 65, .tmp 67]) rfl ?_); at_builtin; refine Kd.R_append (Kd.int .i64) (w0 := w) w.heap.size rfl (.tmp 65) (.tmp 67) 31 3 (.int .i64 0) 8 rfl Try.underlying31 info3 rfl (by decide) (by omega) v312 y311 (wrap64 (a1 + a0_0)) [.int .i64 (wrap64 (a1 + a0_0))] (fun _ => True) (fun _ => False) rfl rfl ?aP (fun _ hk => hk.elim) ?aF ?aO ?aB ?aS ?aL ?_; (case aP => exact rfl); (case aB => exact (by repeat (first | (with_reducible first | exact HB.out | apply wa | apply wN | apply wd | refine ws ?_ GE300.out) | exact HB.out))); (case aF => exact (fun _ _ => trivial)); (case aO => exact (by (with_reducible repeat (first | apply Kd.Ra | apply Kd.Rn | apply Kd.Rd)); exact HO313.out)); (case aS => exact (below_size (by repeat (first | (with_reducible first | exact HB.out | apply wa | apply wN | apply wd | refine ws ?_ GE300.out) | exact HB.out)))); (case aL => have := LMc37.out; omega); intro v316 w41 ho hb hg hat; rw [← Ny315.out] at ho; have n0_ := Aside0.mk (blk_grown (g := gb300) (by (with_reducible repeat first | apply bN | apply bd | apply ba); exact BK300.out) hg (Kd.R_ne HO313.out BK300.out (by decide))); have n1_ := Aside0.mk (hb); have n2_ := Aside0.mk (ho); clear BK300; clear HB; clear HO313; have BK300 := n0_; have HB := n1_; have HO317 := n2_; clear n0_ n1_ n2_; clear ho hb hg hat))
                  go_ret
                  exact ⟨_, by first | rfl | (simp [errW_none, errW_some] <;> rfl) | (simp [*, errW_none, errW_some] <;> rfl), by (with_reducible repeat (first | apply Kd.Ra | apply Kd.Rn | apply Kd.Rd)); exact HO317.out, by repeat (first | (with_reducible first | exact HB.out | apply wa | apply wN | apply wd | refine ws ?_ GE300.out) | exact HB.out)⟩

end Go.Proofs.Ytfinjkjnoobbjaa.MFnTeams
