/- Made by a program of this session (out of the kit's print, with hand-made contracts): what each Go function that the law reaches computes, and that the machine's call does so. -/
import Derived.Test.YtfinjkjnoobbjaaMFnTeamsx0
import Derived.Test.YtfinjkjnoobbjaaMFnTeamsx17
namespace Go.Proofs.Ytfinjkjnoobbjaa.MFnTeams
open Go.RowKit Go.Proofs.YtfinjkjnoobbjaaW.PrintWords Go.Proofs.YtfinjkjnoobbjaaW.PrintLast Go.Proofs.YtfinjkjnoobbjaaW.PrintMore
attribute [local go_sem] max2_int min2_int max_two min_two max_three min_three max_four min_four   -- for this text's walks alone
set_option linter.unusedVariables false
set_option linter.unusedSimpArgs false

/-! ### impl_UnderWay: function 39 -/
def impl_UnderWay.l0 : Nat → Bool → List Int → List (S84) → Int → Int → Option (List Int)
  | 0, _, _, _, _, _ => none
  | k + 1, x1, x5, x8, x9, x10 => if x10 < x9 then (if 0 ≤ x10 then (if x10 < (x8.length : Int) then (if ((rd_T84 x8 x10).f2) ≥ 0 then (if (((rd_T84 x8 x10).f3) == x1) = true then (if x5.length < 17592186044416 then (impl_UnderWay.l0 k x1 (x5 ++ [(rd_T84 x8 x10).f0]) x8 x9 (wrap64 (x10 + 1))) else (none)) else (impl_UnderWay.l0 k x1 x5 x8 x9 (wrap64 (x10 + 1)))) else (impl_UnderWay.l0 k x1 x5 x8 x9 (wrap64 (x10 + 1)))) else (none)) else (none)) else ((impl_ordered.f x5).bind fun t361 => (some t361))
def impl_UnderWay.f (k : Nat) (l0 : List (S84)) (a1 : Bool) : Option (List Int) := impl_UnderWay.l0 k a1 ([] : List Int) l0 (l0.length : Int) 0
theorem impl_UnderWay.mono_l : ∀ k, (∀ y0 y1 y2 y3 y4, LeO (impl_UnderWay.l0 k y0 y1 y2 y3 y4) (impl_UnderWay.l0 (k + 1) y0 y1 y2 y3 y4))
  | 0 => fun _ _ _ _ _ r h => by simp [impl_UnderWay.l0] at h
  | k + 1 => by
    have ih0 := impl_UnderWay.mono_l k
    · intro y0 y1 y2 y3 y4
      unfold impl_UnderWay.l0
      repeat' first
      | (with_reducible exact ih0 _ _ _ _ _)
      | (with_reducible exact LeO.refl _)
      | (with_reducible exact LeO.none _)
      | (with_reducible refine LeO.ite ?_ ?_)
      | (with_reducible refine LeO.bind ?_ (fun _ => ?_))
      | exact ih0 _ _ _ _ _
      | exact LeO.none _
      | refine LeO.ite ?_ ?_
      | refine LeO.bind ?_ (fun _ => ?_)
theorem impl_UnderWay.mono : ∀ a0 a1 k, LeO (impl_UnderWay.f k a0 a1) (impl_UnderWay.f (k + 1) a0 a1) := by
  intro a0 a1 k
  have ih0 := impl_UnderWay.mono_l k
  unfold impl_UnderWay.f
  repeat' first
      | (with_reducible exact ih0 _ _ _ _ _)
      | (with_reducible exact LeO.refl _)
      | (with_reducible exact LeO.none _)
      | (with_reducible refine LeO.ite ?_ ?_)
      | (with_reducible refine LeO.bind ?_ (fun _ => ?_))
      | exact ih0 _ _ _ _ _
      | exact LeO.none _
      | refine LeO.ite ?_ ?_
      | refine LeO.bind ?_ (fun _ => ?_)
set_option maxHeartbeats 8000000 in
set_option maxRecDepth 100000 in
theorem impl_UnderWay.calls (k : Nat) (A0 : Option Addr) (c0 : Nat) (l0 : List (S84)) (a1 : Bool) (r : List Int) (w : World) (hr0 : Kd.C k84 w A0 l0.length l0) (hc0 : l0.length ≤ c0) (h : impl_UnderWay.f k l0 a1 = some r) :
    Calls Try.prog 39 #[.slice A0 l0.length c0, .bool a1] w fun e w' => ∃ v0_ : Value, e = .returned (v0_) ∧ Kd.R (Kd.int .i64) 3 w' w.heap.size (fun _ => True) v0_ r ∧ Below w.heap.size w w' := by
  have hu84 := Try.underlying84
  have HR0 := Aside0.mk hr0
  have HC0 := Aside0.mk hc0
  clear hr0 hc0
  have HB := Aside0.mk (Below.refl w.heap.size w)
  have H : (impl_UnderWay.l0 k a1 ([] : List Int) l0 (l0.length : Int) 0) = some r := h
  clear h
  have H' := Aside0.mk H
  clear H
  go_enter Try.func39, Try.ntmps39
  go_wp2
  go_loopg [5, 10] k (fun kq v5 v10 w' => ∃ (x5_1 : List Int) (x10_1 : Int), v10 = .int .i64 x10_1 ∧ Aside0 (impl_UnderWay.l0 kq a1 x5_1 l0 (l0.length : Int) x10_1 = some r) ∧ Aside0 (kq ≤ k) ∧ Aside0 (Kd.R (Kd.int .i64) 3 w' w.heap.size (fun _ => True) v5 x5_1) ∧ Aside0 (Below w.heap.size w w'))
  case atStart => exact ⟨(([] : List Int)), (0), (by first | rfl | (simp; done) | (simp [*]; done)), H', ⟨Nat.le_refl _⟩, ⟨by first | exact Kd.R_nil _ _ _ _ _ | exact Kd.N_nil _ _ _ _ _ | exact Kd.V_nil _ _ _ _ _ | exact Kd.Q_nil _ _ _ _ _ | exact Kd.S_nil _ _ _ _ _⟩, ⟨by repeat (first | (with_reducible first | exact HB.out | apply wa | apply wN | apply wd) | exact HB.out)⟩⟩
  case round =>
    clear H'
    try clear p2
    obtain ⟨x5_1, x10_1, rfl, HA, HK1, HO_5, HB⟩ := hrel
    cases gk with
    | zero => exact absurd HA.out (by simp [impl_UnderWay.l0])
    | succ k1 =>
      have H := HA.out
      clear HA
      simp only [impl_UnderWay.l0] at H
      by_cases c3 : x10_1 < (l0.length : Int)
      rotate_left
      · rw [if_neg c3] at H
        have c3b0 : decide (x10_1 < (l0.length : Int)) = false := decide_eq_false c3
        clear c3
        replace H := Option.bind_eq_some_iff.mp H
        obtain ⟨t361, A160, H⟩ := H
        replace H : (some t361) = some r := H
        have A16 := Aside0.mk A160
        clear A160
        obtain rfl := Option.some.inj H
        obtain ⟨Ao17, co17, eo17⟩ := Kd.R_slice HO_5.out
        subst eo17
        go_wp2_with (first | ((with_reducible refine gate_callee (f := 87) rfl ?_); refine goesL_ (some 30) rfl rfl Try.func87 (by kernel_rfl) rfl #[.slice Ao17 x5_1.length co17] rfl (by (try simp only [List.map_toArray, List.map_cons, List.map_nil]); first | done | rfl | (simp only [List.length_drop, List.length_take]; rfl)) ?_; (with_reducible refine (impl_ordered.calls (fun k_ => some k_ = (.slice Ao17 x5_1.length co17 : Value).ownBlock) (.slice Ao17 x5_1.length co17) x5_1 t361 w _ ?side1 ?side2 A16.out).mono ?_); (case side1 => repeat (first | (with_reducible first | exact HB.out | apply wa | apply wN | apply wd) | exact HB.out)); (case side2 => exact Kd.R_tight rfl HO_5.out); rintro e w18 ⟨v362, rfl, ho0, hb, hkp⟩; refine ⟨_, rfl, ?_⟩; have n0_ := Aside0.mk (Kd.R_mono (ok' := fun k_ => True) ho0 (fun k_ hk_ => trivial)); have n1_ := Aside0.mk (hb); clear HB; clear HO_5; have HO363 := n0_; have HB := n1_; clear n0_ n1_; (try clear hb); (try clear hkp); (try clear ho0)))
        go_ret
        exact ⟨_, by first | rfl | (simp [errW_none, errW_some] <;> rfl) | (simp [*, errW_none, errW_some] <;> rfl), by (with_reducible repeat (first | apply Kd.Ra | apply Kd.Rn | apply Kd.Rd)); exact HO363.out, by repeat (first | (with_reducible first | exact HB.out | apply wa | apply wN | apply wd) | exact HB.out)⟩
      rw [if_pos c3] at H
      have c3b0 : decide (x10_1 < (l0.length : Int)) = true := decide_eq_true c3
      clear c3
      by_cases c4 : 0 ≤ x10_1
      rotate_left
      · rw [if_neg c4] at H
        exact absurd H (by simp)
      rw [if_pos c4] at H
      have c4b0 : decide (0 ≤ x10_1) = true := decide_eq_true c4
      clear c4
      by_cases c5 : x10_1 < (l0.length : Int)
      rotate_left
      · rw [if_neg c5] at H
        exact absurd H (by simp)
      rw [if_pos c5] at H
      have c5b0 : decide (x10_1 < (l0.length : Int)) = true := decide_eq_true c5
      clear c5
      by_cases c6 : ((rd_T84 l0 x10_1).f2) ≥ 0
      rotate_left
      · rw [if_neg c6] at H
        have c6b0 : decide (0 ≤ ((rd_T84 l0 x10_1).f2)) = false := decide_eq_false c6
        clear c6
        have H' := Aside0.mk H
        clear H
        have p356 : 0 ≤ (x10_1 : Int) := of_decide_eq_true (by first | (with_reducible assumption) | assumption)
        have q356 : x10_1 < (l0.length : Int) := of_decide_eq_true (by first | (with_reducible assumption) | assumption)
        obtain ⟨ad356, e356, hx356_0, hx356_1, hx356_2, hx356_3⟩ := at_T84 HR0.out x10_1 p356 q356
        cases e356
        replace hx356_0 := (HB.out.cell (World.block_lt_of_cell? w _ hx356_0)).trans hx356_0
        replace hx356_1 := (HB.out.cell (World.block_lt_of_cell? w _ hx356_1)).trans hx356_1
        replace hx356_2 := (HB.out.cell (World.block_lt_of_cell? w _ hx356_2)).trans hx356_2
        replace hx356_3 := (HB.out.cell (World.block_lt_of_cell? w _ hx356_3)).trans hx356_3
        replace p356 := eq_true p356
        replace q356 := eq_true q356
        go_wp2_with (first | ((with_reducible refine gate_dst (N := 7) rfl ?_); refine box_event ?hg (N := 7) ?hd (cs := #[.int .i64 0, .int .i64 0, .int .i64 0, .bool false]) (t := 84) ?hr ?_; (case hd => rfl); (case hg => rfl); (case hr => first | (go_simp; done) | (go_simp; rfl)); intro gb357 hg w14 hbox hb; have n0_ := Aside0.mk (Kd.Rb (by (with_reducible repeat (first | apply Kd.Ra | apply Kd.Rn | apply Kd.Rd)); exact HO_5.out) hb); have n1_ := Aside0.mk (below_step (by repeat (first | (with_reducible first | exact HB.out | apply wa | apply wN | apply wd) | exact HB.out)) hb); have n2_ := Aside0.mk (hbox); have n3_ := Aside0.mk ((by rw [hg]; exact (below_size (by repeat (first | (with_reducible first | exact HB.out | apply wa | apply wN | apply wd) | exact HB.out))) : w.heap.size ≤ gb357)); have n4_ := n3_; clear HO_5; clear HB; have HO_5 := n0_; have HB := n1_; have BK357 := n2_; have GW357 := n3_; have GE357 := n4_; clear n0_ n1_ n2_ n3_ n4_; clear hb hbox hg; have hcz15_0 : w14.cell? ⟨gb357, 0, none⟩ = some (.int .i64 0) := (bc BK357.out 0).trans rfl; have hcz15_1 : w14.cell? ⟨gb357, 1, none⟩ = some (.int .i64 0) := (bc BK357.out 1).trans rfl; have hcz15_2 : w14.cell? ⟨gb357, 2, none⟩ = some (.int .i64 0) := (bc BK357.out 2).trans rfl; have hcz15_3 : w14.cell? ⟨gb357, 3, none⟩ = some (.bool false) := (bc BK357.out 3).trans rfl; have hfz15_0 := bz BK357.out 0; have hfz15_1 := bz BK357.out 1; have hfz15_2 := bz BK357.out 2; have hfz15_3 := bz BK357.out 3))
        go_roundg k1
        case measure => have := HK1.out; omega
        case rel => exact ⟨(x5_1), (wrap64 (x10_1 + 1)), (by first | rfl | (simp; done) | (simp [*]; done)), H', ⟨by have := HK1.out; omega⟩, ⟨by (with_reducible repeat (first | apply Kd.Ra | apply Kd.Rn | apply Kd.Rd)); exact Kd.R_mono (Kd.Rf (p := ⟨gb357, 3, none⟩) (Kd.Rf (p := ⟨gb357, 2, none⟩) (Kd.Rf (p := ⟨gb357, 1, none⟩) (Kd.Rf (p := ⟨gb357, 0, none⟩) (Kd.R_types HO_5.out BK357.out (by decide)) (fun _ hk => hk.2) (.int .i64 ((rd_T84 l0 x10_1).f0))) (fun _ hk => hk.2) (.int .i64 ((rd_T84 l0 x10_1).f1))) (fun _ hk => hk.2) (.int .i64 ((rd_T84 l0 x10_1).f2))) (fun _ hk => hk.2) (.bool ((rd_T84 l0 x10_1).f3))) (fun _ hk => trivial)⟩, ⟨by repeat (first | (with_reducible first | exact HB.out | apply wa | apply wN | apply wd | refine ws ?_ GE357.out) | exact HB.out)⟩⟩
      rw [if_pos c6] at H
      have c6b0 : decide (0 ≤ ((rd_T84 l0 x10_1).f2)) = true := decide_eq_true c6
      clear c6
      by_cases c7 : (((rd_T84 l0 x10_1).f3) == a1) = true
      rotate_left
      · rw [if_neg c7] at H
        have c7b0 : (((rd_T84 l0 x10_1).f3) == a1) = false := by simpa using c7
        (try (have c7b1 : decide (((rd_T84 l0 x10_1).f3) = a1) = false := by simpa using c7))
        (try (have c7b2 : (((rd_T84 l0 x10_1).f3) == a1) = false := by simpa using c7))
        (try (have c7b3 : ¬ (((rd_T84 l0 x10_1).f3) = a1) := by simpa using c7))
        clear c7
        have H' := Aside0.mk H
        clear H
        have p356 : 0 ≤ (x10_1 : Int) := of_decide_eq_true (by first | (with_reducible assumption) | assumption)
        have q356 : x10_1 < (l0.length : Int) := of_decide_eq_true (by first | (with_reducible assumption) | assumption)
        obtain ⟨ad356, e356, hx356_0, hx356_1, hx356_2, hx356_3⟩ := at_T84 HR0.out x10_1 p356 q356
        cases e356
        replace hx356_0 := (HB.out.cell (World.block_lt_of_cell? w _ hx356_0)).trans hx356_0
        replace hx356_1 := (HB.out.cell (World.block_lt_of_cell? w _ hx356_1)).trans hx356_1
        replace hx356_2 := (HB.out.cell (World.block_lt_of_cell? w _ hx356_2)).trans hx356_2
        replace hx356_3 := (HB.out.cell (World.block_lt_of_cell? w _ hx356_3)).trans hx356_3
        replace p356 := eq_true p356
        replace q356 := eq_true q356
        go_wp2_with (first | ((with_reducible refine gate_dst (N := 7) rfl ?_); refine box_event ?hg (N := 7) ?hd (cs := #[.int .i64 0, .int .i64 0, .int .i64 0, .bool false]) (t := 84) ?hr ?_; (case hd => rfl); (case hg => rfl); (case hr => first | (go_simp; done) | (go_simp; rfl)); intro gb357 hg w12 hbox hb; have n0_ := Aside0.mk (Kd.Rb (by (with_reducible repeat (first | apply Kd.Ra | apply Kd.Rn | apply Kd.Rd)); exact HO_5.out) hb); have n1_ := Aside0.mk (below_step (by repeat (first | (with_reducible first | exact HB.out | apply wa | apply wN | apply wd) | exact HB.out)) hb); have n2_ := Aside0.mk (hbox); have n3_ := Aside0.mk ((by rw [hg]; exact (below_size (by repeat (first | (with_reducible first | exact HB.out | apply wa | apply wN | apply wd) | exact HB.out))) : w.heap.size ≤ gb357)); have n4_ := n3_; clear HO_5; clear HB; have HO_5 := n0_; have HB := n1_; have BK357 := n2_; have GW357 := n3_; have GE357 := n4_; clear n0_ n1_ n2_ n3_ n4_; clear hb hbox hg; have hcz13_0 : w12.cell? ⟨gb357, 0, none⟩ = some (.int .i64 0) := (bc BK357.out 0).trans rfl; have hcz13_1 : w12.cell? ⟨gb357, 1, none⟩ = some (.int .i64 0) := (bc BK357.out 1).trans rfl; have hcz13_2 : w12.cell? ⟨gb357, 2, none⟩ = some (.int .i64 0) := (bc BK357.out 2).trans rfl; have hcz13_3 : w12.cell? ⟨gb357, 3, none⟩ = some (.bool false) := (bc BK357.out 3).trans rfl; have hfz13_0 := bz BK357.out 0; have hfz13_1 := bz BK357.out 1; have hfz13_2 := bz BK357.out 2; have hfz13_3 := bz BK357.out 3))
        go_roundg k1
        case measure => have := HK1.out; omega
        case rel => exact ⟨(x5_1), (wrap64 (x10_1 + 1)), (by first | rfl | (simp; done) | (simp [*]; done)), H', ⟨by have := HK1.out; omega⟩, ⟨by (with_reducible repeat (first | apply Kd.Ra | apply Kd.Rn | apply Kd.Rd)); exact Kd.R_mono (Kd.Rf (p := ⟨gb357, 3, none⟩) (Kd.Rf (p := ⟨gb357, 2, none⟩) (Kd.Rf (p := ⟨gb357, 1, none⟩) (Kd.Rf (p := ⟨gb357, 0, none⟩) (Kd.R_types HO_5.out BK357.out (by decide)) (fun _ hk => hk.2) (.int .i64 ((rd_T84 l0 x10_1).f0))) (fun _ hk => hk.2) (.int .i64 ((rd_T84 l0 x10_1).f1))) (fun _ hk => hk.2) (.int .i64 ((rd_T84 l0 x10_1).f2))) (fun _ hk => hk.2) (.bool ((rd_T84 l0 x10_1).f3))) (fun _ hk => trivial)⟩, ⟨by repeat (first | (with_reducible first | exact HB.out | apply wa | apply wN | apply wd | refine ws ?_ GE357.out) | exact HB.out)⟩⟩
      rw [if_pos c7] at H
      have c7b0 : (((rd_T84 l0 x10_1).f3) == a1) = true := c7
      (try (have c7b1 : decide (((rd_T84 l0 x10_1).f3) = a1) = true := by simpa using c7))
      (try (have c7b2 : (((rd_T84 l0 x10_1).f3) == a1) = true := by simpa using c7))
      clear c7
      by_cases c8 : x5_1.length < 17592186044416
      rotate_left
      · rw [if_neg c8] at H
        exact absurd H (by simp)
      rw [if_pos c8] at H
      have LMc8 := Aside0.mk c8
      clear c8
      obtain ⟨y358, hy358⟩ : ∃ y_ : List Int, y_ = (x5_1 ++ [(rd_T84 l0 x10_1).f0]) := ⟨_, rfl⟩
      replace H : (impl_UnderWay.l0 k1 a1 y358 l0 (l0.length : Int) (wrap64 (x10_1 + 1))) = some r := by first | (rw [hy358]; with_reducible exact H) | (have H2_ := (Option.bind_some _ _).symm.trans H; rw [hy358]; with_reducible exact H2_) | (have H2_ := (Option.bind_some _ _).symm.trans H; with_reducible exact H2_) | with_reducible exact H | (rw [hy358]; exact H) | exact H
      have Ny358 := Aside0.mk hy358
      clear hy358
      have H' := Aside0.mk H
      clear H
      have p356 : 0 ≤ (x10_1 : Int) := of_decide_eq_true (by first | (with_reducible assumption) | assumption)
      have q356 : x10_1 < (l0.length : Int) := of_decide_eq_true (by first | (with_reducible assumption) | assumption)
      obtain ⟨ad356, e356, hx356_0, hx356_1, hx356_2, hx356_3⟩ := at_T84 HR0.out x10_1 p356 q356
      cases e356
      replace hx356_0 := (HB.out.cell (World.block_lt_of_cell? w _ hx356_0)).trans hx356_0
      replace hx356_1 := (HB.out.cell (World.block_lt_of_cell? w _ hx356_1)).trans hx356_1
      replace hx356_2 := (HB.out.cell (World.block_lt_of_cell? w _ hx356_2)).trans hx356_2
      replace hx356_3 := (HB.out.cell (World.block_lt_of_cell? w _ hx356_3)).trans hx356_3
      replace p356 := eq_true p356
      replace q356 := eq_true q356
      go_wp2_with (first | ((with_reducible refine gate_dst (N := 7) rfl ?_); refine box_event ?hg (N := 7) ?hd (cs := #[.int .i64 0, .int .i64 0, .int .i64 0, .bool false]) (t := 84) ?hr ?_; (case hd => rfl); (case hg => rfl); (case hr => first | (go_simp; done) | (go_simp; rfl)); intro gb357 hg w9 hbox hb; have n0_ := Aside0.mk (Kd.Rb (by (with_reducible repeat (first | apply Kd.Ra | apply Kd.Rn | apply Kd.Rd)); exact HO_5.out) hb); have n1_ := Aside0.mk (below_step (by repeat (first | (with_reducible first | exact HB.out | apply wa | apply wN | apply wd) | exact HB.out)) hb); have n2_ := Aside0.mk (hbox); have n3_ := Aside0.mk ((by rw [hg]; exact (below_size (by repeat (first | (with_reducible first | exact HB.out | apply wa | apply wN | apply wd) | exact HB.out))) : w.heap.size ≤ gb357)); have n4_ := n3_; clear HO_5; clear HB; have HO_5 := n0_; have HB := n1_; have BK357 := n2_; have GW357 := n3_; have GE357 := n4_; clear n0_ n1_ n2_ n3_ n4_; clear hb hbox hg; have hcz10_0 : w9.cell? ⟨gb357, 0, none⟩ = some (.int .i64 0) := (bc BK357.out 0).trans rfl; have hcz10_1 : w9.cell? ⟨gb357, 1, none⟩ = some (.int .i64 0) := (bc BK357.out 1).trans rfl; have hcz10_2 : w9.cell? ⟨gb357, 2, none⟩ = some (.int .i64 0) := (bc BK357.out 2).trans rfl; have hcz10_3 : w9.cell? ⟨gb357, 3, none⟩ = some (.bool false) := (bc BK357.out 3).trans rfl; have hfz10_0 := bz BK357.out 0; have hfz10_1 := bz BK357.out 1; have hfz10_2 := bz BK357.out 2; have hfz10_3 := bz BK357.out 3) | ((with_reducible refine gate_builtin (b := .append) (xs := #[.tmp 23, .tmp 26]) rfl ?_); at_builtin; refine Kd.R_append (Kd.int .i64) (w0 := w) w.heap.size rfl (.tmp 23) (.tmp 26) 31 3 (.int .i64 0) 8 rfl Try.underlying31 info3 rfl (by decide) (by omega) u5 x5_1 ((rd_T84 l0 x10_1).f0) [.int .i64 ((rd_T84 l0 x10_1).f0)] (fun _ => True) (fun _ => False) rfl (by first | (go_simp; done) | (go_simp; rfl)) ?aP (fun _ hk => hk.elim) ?aF ?aO ?aB ?aS ?aL ?_; (case aP => exact rfl); (case aB => exact (by repeat (first | (with_reducible first | exact HB.out | apply wa | apply wN | apply wd | refine ws ?_ GE357.out) | exact HB.out))); (case aF => exact (fun _ _ => trivial)); (case aO => exact (by (with_reducible repeat (first | apply Kd.Ra | apply Kd.Rn | apply Kd.Rd)); exact Kd.R_mono (Kd.Rf (p := ⟨gb357, 3, none⟩) (Kd.Rf (p := ⟨gb357, 2, none⟩) (Kd.Rf (p := ⟨gb357, 1, none⟩) (Kd.Rf (p := ⟨gb357, 0, none⟩) (Kd.R_types HO_5.out BK357.out (by decide)) (fun _ hk => hk.2) (.int .i64 ((rd_T84 l0 x10_1).f0))) (fun _ hk => hk.2) (.int .i64 ((rd_T84 l0 x10_1).f1))) (fun _ hk => hk.2) (.int .i64 ((rd_T84 l0 x10_1).f2))) (fun _ hk => hk.2) (.bool ((rd_T84 l0 x10_1).f3))) (fun _ hk => trivial))); (case aS => exact (below_size (by repeat (first | (with_reducible first | exact HB.out | apply wa | apply wN | apply wd | refine ws ?_ GE357.out) | exact HB.out)))); (case aL => have := LMc8.out; omega); intro v359 w11 ho hb hg hat; rw [← Ny358.out] at ho; have n0_ := Aside0.mk (blk_grown (g := gb357) (o := .cells #[.int .i64 ((rd_T84 l0 x10_1).f0), .int .i64 ((rd_T84 l0 x10_1).f1), .int .i64 ((rd_T84 l0 x10_1).f2), .bool ((rd_T84 l0 x10_1).f3)] 84 (0, 0)) (by (with_reducible repeat first | apply bN | apply bd | apply ba); refine blk_put (cs := #[.int .i64 ((rd_T84 l0 x10_1).f0), .int .i64 ((rd_T84 l0 x10_1).f1), .int .i64 ((rd_T84 l0 x10_1).f2), .bool false]) ?_ 3 _ rfl; (with_reducible repeat first | apply bN | apply bd | apply ba); refine blk_put (cs := #[.int .i64 ((rd_T84 l0 x10_1).f0), .int .i64 ((rd_T84 l0 x10_1).f1), .int .i64 0, .bool false]) ?_ 2 _ rfl; (with_reducible repeat first | apply bN | apply bd | apply ba); refine blk_put (cs := #[.int .i64 ((rd_T84 l0 x10_1).f0), .int .i64 0, .int .i64 0, .bool false]) ?_ 1 _ rfl; (with_reducible repeat first | apply bN | apply bd | apply ba); refine blk_put (cs := #[.int .i64 0, .int .i64 0, .int .i64 0, .bool false]) ?_ 0 _ rfl; (with_reducible repeat first | apply bN | apply bd | apply ba); exact BK357.out) hg (Kd.R_ne HO_5.out BK357.out (by decide))); have n1_ := Aside0.mk (hb); have n2_ := Aside0.mk (ho); clear BK357; clear HB; clear HO_5; have BK357 := n0_; have HB := n1_; have HO360 := n2_; clear n0_ n1_ n2_; clear ho hb hg hat))
      go_roundg k1
      case measure => have := HK1.out; omega
      case rel => exact ⟨(y358), (wrap64 (x10_1 + 1)), (by first | rfl | (simp; done) | (simp [*]; done)), H', ⟨by have := HK1.out; omega⟩, ⟨by (with_reducible repeat (first | apply Kd.Ra | apply Kd.Rn | apply Kd.Rd)); exact HO360.out⟩, ⟨by repeat (first | (with_reducible first | exact HB.out | apply wa | apply wN | apply wd | refine ws ?_ GE357.out) | exact HB.out)⟩⟩

/-! ### impl_IdleCells: function 40 -/
def impl_IdleCells.l0 : Nat → List Int → List (S84) → Int → Int → Option (List Int)
  | 0, _, _, _, _ => none
  | k + 1, x3, x6, x7, x8 => if x8 < x7 then (if 0 ≤ x8 then (if x8 < (x6.length : Int) then (if ((rd_T84 x6 x8).f2) < 0 then (if ((rd_T84 x6 x8).f3 = true) then (impl_IdleCells.l0 k x3 x6 x7 (wrap64 (x8 + 1))) else (if x3.length < 17592186044416 then (impl_IdleCells.l0 k (x3 ++ [(rd_T84 x6 x8).f1]) x6 x7 (wrap64 (x8 + 1))) else (none))) else (impl_IdleCells.l0 k x3 x6 x7 (wrap64 (x8 + 1)))) else (none)) else (none)) else ((impl_ordered.f x3).bind fun t369 => (some t369))
def impl_IdleCells.f (k : Nat) (l0 : List (S84)) : Option (List Int) := impl_IdleCells.l0 k ([] : List Int) l0 (l0.length : Int) 0
theorem impl_IdleCells.mono_l : ∀ k, (∀ y0 y1 y2 y3, LeO (impl_IdleCells.l0 k y0 y1 y2 y3) (impl_IdleCells.l0 (k + 1) y0 y1 y2 y3))
  | 0 => fun _ _ _ _ r h => by simp [impl_IdleCells.l0] at h
  | k + 1 => by
    have ih0 := impl_IdleCells.mono_l k
    · intro y0 y1 y2 y3
      unfold impl_IdleCells.l0
      repeat' first
      | (with_reducible exact ih0 _ _ _ _)
      | (with_reducible exact LeO.refl _)
      | (with_reducible exact LeO.none _)
      | (with_reducible refine LeO.ite ?_ ?_)
      | (with_reducible refine LeO.bind ?_ (fun _ => ?_))
      | exact ih0 _ _ _ _
      | exact LeO.none _
      | refine LeO.ite ?_ ?_
      | refine LeO.bind ?_ (fun _ => ?_)
theorem impl_IdleCells.mono : ∀ a0 k, LeO (impl_IdleCells.f k a0) (impl_IdleCells.f (k + 1) a0) := by
  intro a0 k
  have ih0 := impl_IdleCells.mono_l k
  unfold impl_IdleCells.f
  repeat' first
      | (with_reducible exact ih0 _ _ _ _)
      | (with_reducible exact LeO.refl _)
      | (with_reducible exact LeO.none _)
      | (with_reducible refine LeO.ite ?_ ?_)
      | (with_reducible refine LeO.bind ?_ (fun _ => ?_))
      | exact ih0 _ _ _ _
      | exact LeO.none _
      | refine LeO.ite ?_ ?_
      | refine LeO.bind ?_ (fun _ => ?_)
set_option maxHeartbeats 8000000 in
set_option maxRecDepth 100000 in
theorem impl_IdleCells.calls (k : Nat) (A0 : Option Addr) (c0 : Nat) (l0 : List (S84)) (r : List Int) (w : World) (hr0 : Kd.C k84 w A0 l0.length l0) (hc0 : l0.length ≤ c0) (h : impl_IdleCells.f k l0 = some r) :
    Calls Try.prog 40 #[.slice A0 l0.length c0] w fun e w' => ∃ v0_ : Value, e = .returned (v0_) ∧ Kd.R (Kd.int .i64) 3 w' w.heap.size (fun _ => True) v0_ r ∧ Below w.heap.size w w' := by
  have hu84 := Try.underlying84
  have HR0 := Aside0.mk hr0
  have HC0 := Aside0.mk hc0
  clear hr0 hc0
  have HB := Aside0.mk (Below.refl w.heap.size w)
  have H : (impl_IdleCells.l0 k ([] : List Int) l0 (l0.length : Int) 0) = some r := h
  clear h
  have H' := Aside0.mk H
  clear H
  go_enter Try.func40, Try.ntmps40
  go_wp2
  go_loopg [3, 8] k (fun kq v3 v8 w' => ∃ (x3_1 : List Int) (x8_1 : Int), v8 = .int .i64 x8_1 ∧ Aside0 (impl_IdleCells.l0 kq x3_1 l0 (l0.length : Int) x8_1 = some r) ∧ Aside0 (kq ≤ k) ∧ Aside0 (Kd.R (Kd.int .i64) 3 w' w.heap.size (fun _ => True) v3 x3_1) ∧ Aside0 (Below w.heap.size w w'))
  case atStart => exact ⟨(([] : List Int)), (0), (by first | rfl | (simp; done) | (simp [*]; done)), H', ⟨Nat.le_refl _⟩, ⟨by first | exact Kd.R_nil _ _ _ _ _ | exact Kd.N_nil _ _ _ _ _ | exact Kd.V_nil _ _ _ _ _ | exact Kd.Q_nil _ _ _ _ _ | exact Kd.S_nil _ _ _ _ _⟩, ⟨by repeat (first | (with_reducible first | exact HB.out | apply wa | apply wN | apply wd) | exact HB.out)⟩⟩
  case round =>
    clear H'
    obtain ⟨x3_1, x8_1, rfl, HA, HK1, HO_3, HB⟩ := hrel
    cases gk with
    | zero => exact absurd HA.out (by simp [impl_IdleCells.l0])
    | succ k1 =>
      have H := HA.out
      clear HA
      simp only [impl_IdleCells.l0] at H
      by_cases c2 : x8_1 < (l0.length : Int)
      rotate_left
      · rw [if_neg c2] at H
        have c2b0 : decide (x8_1 < (l0.length : Int)) = false := decide_eq_false c2
        clear c2
        replace H := Option.bind_eq_some_iff.mp H
        obtain ⟨t369, A160, H⟩ := H
        replace H : (some t369) = some r := H
        have A16 := Aside0.mk A160
        clear A160
        obtain rfl := Option.some.inj H
        obtain ⟨Ao17, co17, eo17⟩ := Kd.R_slice HO_3.out
        subst eo17
        go_wp2_with (first | ((with_reducible refine gate_callee (f := 87) rfl ?_); refine goesL_ (some 27) rfl rfl Try.func87 (by kernel_rfl) rfl #[.slice Ao17 x3_1.length co17] rfl (by (try simp only [List.map_toArray, List.map_cons, List.map_nil]); first | done | rfl | (simp only [List.length_drop, List.length_take]; rfl)) ?_; (with_reducible refine (impl_ordered.calls (fun k_ => some k_ = (.slice Ao17 x3_1.length co17 : Value).ownBlock) (.slice Ao17 x3_1.length co17) x3_1 t369 w _ ?side1 ?side2 A16.out).mono ?_); (case side1 => repeat (first | (with_reducible first | exact HB.out | apply wa | apply wN | apply wd) | exact HB.out)); (case side2 => exact Kd.R_tight rfl HO_3.out); rintro e w18 ⟨v370, rfl, ho0, hb, hkp⟩; refine ⟨_, rfl, ?_⟩; have n0_ := Aside0.mk (Kd.R_mono (ok' := fun k_ => True) ho0 (fun k_ hk_ => trivial)); have n1_ := Aside0.mk (hb); clear HB; clear HO_3; have HO371 := n0_; have HB := n1_; clear n0_ n1_; (try clear hb); (try clear hkp); (try clear ho0)))
        go_ret
        exact ⟨_, by first | rfl | (simp [errW_none, errW_some] <;> rfl) | (simp [*, errW_none, errW_some] <;> rfl), by (with_reducible repeat (first | apply Kd.Ra | apply Kd.Rn | apply Kd.Rd)); exact HO371.out, by repeat (first | (with_reducible first | exact HB.out | apply wa | apply wN | apply wd) | exact HB.out)⟩
      rw [if_pos c2] at H
      have c2b0 : decide (x8_1 < (l0.length : Int)) = true := decide_eq_true c2
      clear c2
      by_cases c3 : 0 ≤ x8_1
      rotate_left
      · rw [if_neg c3] at H
        exact absurd H (by simp)
      rw [if_pos c3] at H
      have c3b0 : decide (0 ≤ x8_1) = true := decide_eq_true c3
      clear c3
      by_cases c4 : x8_1 < (l0.length : Int)
      rotate_left
      · rw [if_neg c4] at H
        exact absurd H (by simp)
      rw [if_pos c4] at H
      have c4b0 : decide (x8_1 < (l0.length : Int)) = true := decide_eq_true c4
      clear c4
      by_cases c5 : ((rd_T84 l0 x8_1).f2) < 0
      rotate_left
      · rw [if_neg c5] at H
        have c5b0 : decide (((rd_T84 l0 x8_1).f2) < 0) = false := decide_eq_false c5
        clear c5
        have H' := Aside0.mk H
        clear H
        have p364 : 0 ≤ (x8_1 : Int) := of_decide_eq_true (by first | (with_reducible assumption) | assumption)
        have q364 : x8_1 < (l0.length : Int) := of_decide_eq_true (by first | (with_reducible assumption) | assumption)
        obtain ⟨ad364, e364, hx364_0, hx364_1, hx364_2, hx364_3⟩ := at_T84 HR0.out x8_1 p364 q364
        cases e364
        replace hx364_0 := (HB.out.cell (World.block_lt_of_cell? w _ hx364_0)).trans hx364_0
        replace hx364_1 := (HB.out.cell (World.block_lt_of_cell? w _ hx364_1)).trans hx364_1
        replace hx364_2 := (HB.out.cell (World.block_lt_of_cell? w _ hx364_2)).trans hx364_2
        replace hx364_3 := (HB.out.cell (World.block_lt_of_cell? w _ hx364_3)).trans hx364_3
        replace p364 := eq_true p364
        replace q364 := eq_true q364
        go_wp2_with (first | ((with_reducible refine gate_dst (N := 5) rfl ?_); refine box_event ?hg (N := 5) ?hd (cs := #[.int .i64 0, .int .i64 0, .int .i64 0, .bool false]) (t := 84) ?hr ?_; (case hd => rfl); (case hg => rfl); (case hr => first | (go_simp; done) | (go_simp; rfl)); intro gb365 hg w14 hbox hb; have n0_ := Aside0.mk (Kd.Rb (by (with_reducible repeat (first | apply Kd.Ra | apply Kd.Rn | apply Kd.Rd)); exact HO_3.out) hb); have n1_ := Aside0.mk (below_step (by repeat (first | (with_reducible first | exact HB.out | apply wa | apply wN | apply wd) | exact HB.out)) hb); have n2_ := Aside0.mk (hbox); have n3_ := Aside0.mk ((by rw [hg]; exact (below_size (by repeat (first | (with_reducible first | exact HB.out | apply wa | apply wN | apply wd) | exact HB.out))) : w.heap.size ≤ gb365)); have n4_ := n3_; clear HO_3; clear HB; have HO_3 := n0_; have HB := n1_; have BK365 := n2_; have GW365 := n3_; have GE365 := n4_; clear n0_ n1_ n2_ n3_ n4_; clear hb hbox hg; have hcz15_0 : w14.cell? ⟨gb365, 0, none⟩ = some (.int .i64 0) := (bc BK365.out 0).trans rfl; have hcz15_1 : w14.cell? ⟨gb365, 1, none⟩ = some (.int .i64 0) := (bc BK365.out 1).trans rfl; have hcz15_2 : w14.cell? ⟨gb365, 2, none⟩ = some (.int .i64 0) := (bc BK365.out 2).trans rfl; have hcz15_3 : w14.cell? ⟨gb365, 3, none⟩ = some (.bool false) := (bc BK365.out 3).trans rfl; have hfz15_0 := bz BK365.out 0; have hfz15_1 := bz BK365.out 1; have hfz15_2 := bz BK365.out 2; have hfz15_3 := bz BK365.out 3))
        go_roundg k1
        case measure => have := HK1.out; omega
        case rel => exact ⟨(x3_1), (wrap64 (x8_1 + 1)), (by first | rfl | (simp; done) | (simp [*]; done)), H', ⟨by have := HK1.out; omega⟩, ⟨by (with_reducible repeat (first | apply Kd.Ra | apply Kd.Rn | apply Kd.Rd)); exact Kd.R_mono (Kd.Rf (p := ⟨gb365, 3, none⟩) (Kd.Rf (p := ⟨gb365, 2, none⟩) (Kd.Rf (p := ⟨gb365, 1, none⟩) (Kd.Rf (p := ⟨gb365, 0, none⟩) (Kd.R_types HO_3.out BK365.out (by decide)) (fun _ hk => hk.2) (.int .i64 ((rd_T84 l0 x8_1).f0))) (fun _ hk => hk.2) (.int .i64 ((rd_T84 l0 x8_1).f1))) (fun _ hk => hk.2) (.int .i64 ((rd_T84 l0 x8_1).f2))) (fun _ hk => hk.2) (.bool ((rd_T84 l0 x8_1).f3))) (fun _ hk => trivial)⟩, ⟨by repeat (first | (with_reducible first | exact HB.out | apply wa | apply wN | apply wd | refine ws ?_ GE365.out) | exact HB.out)⟩⟩
      rw [if_pos c5] at H
      have c5b0 : decide (((rd_T84 l0 x8_1).f2) < 0) = true := decide_eq_true c5
      clear c5
      obtain ⟨bq6, hbq6⟩ : ∃ b_ : Bool, b_ = ((rd_T84 l0 x8_1).f3) := ⟨_, rfl⟩
      replace H : (if (bq6 = true) then (impl_IdleCells.l0 k1 x3_1 l0 (l0.length : Int) (wrap64 (x8_1 + 1))) else (if x3_1.length < 17592186044416 then (impl_IdleCells.l0 k1 (x3_1 ++ [(rd_T84 l0 x8_1).f1]) l0 (l0.length : Int) (wrap64 (x8_1 + 1))) else (none))) = some r := by rw [← hbq6] at H; exact H
      have Nbq6 := Aside0.mk hbq6
      clear hbq6
      by_cases c7 : (bq6 = true)
      · subst c7
        have H1 : (impl_IdleCells.l0 k1 x3_1 l0 (l0.length : Int) (wrap64 (x8_1 + 1))) = some r := by rw [if_pos rfl] at H; exact H
        clear H
        have H := H1
        clear H1
        have H' := Aside0.mk H
        clear H
        have p364 : 0 ≤ (x8_1 : Int) := of_decide_eq_true (by first | (with_reducible assumption) | assumption)
        have q364 : x8_1 < (l0.length : Int) := of_decide_eq_true (by first | (with_reducible assumption) | assumption)
        obtain ⟨ad364, e364, hx364_0, hx364_1, hx364_2, hx364_3⟩ := at_T84 HR0.out x8_1 p364 q364
        (try rw [← Nbq6.out] at hx364_3) <;> (try rw [← Nbq6.out] at hw364_3)
        cases e364
        replace hx364_0 := (HB.out.cell (World.block_lt_of_cell? w _ hx364_0)).trans hx364_0
        replace hx364_1 := (HB.out.cell (World.block_lt_of_cell? w _ hx364_1)).trans hx364_1
        replace hx364_2 := (HB.out.cell (World.block_lt_of_cell? w _ hx364_2)).trans hx364_2
        replace hx364_3 := (HB.out.cell (World.block_lt_of_cell? w _ hx364_3)).trans hx364_3
        replace p364 := eq_true p364
        replace q364 := eq_true q364
        go_wp2_with (first | ((with_reducible refine gate_dst (N := 5) rfl ?_); refine box_event ?hg (N := 5) ?hd (cs := #[.int .i64 0, .int .i64 0, .int .i64 0, .bool false]) (t := 84) ?hr ?_; (case hd => rfl); (case hg => rfl); (case hr => first | (go_simp; done) | (go_simp; rfl)); intro gb365 hg w8 hbox hb; have n0_ := Aside0.mk (Kd.Rb (by (with_reducible repeat (first | apply Kd.Ra | apply Kd.Rn | apply Kd.Rd)); exact HO_3.out) hb); have n1_ := Aside0.mk (below_step (by repeat (first | (with_reducible first | exact HB.out | apply wa | apply wN | apply wd) | exact HB.out)) hb); have n2_ := Aside0.mk (hbox); have n3_ := Aside0.mk ((by rw [hg]; exact (below_size (by repeat (first | (with_reducible first | exact HB.out | apply wa | apply wN | apply wd) | exact HB.out))) : w.heap.size ≤ gb365)); have n4_ := n3_; clear HO_3; clear HB; have HO_3 := n0_; have HB := n1_; have BK365 := n2_; have GW365 := n3_; have GE365 := n4_; clear n0_ n1_ n2_ n3_ n4_; clear hb hbox hg; have hcz9_0 : w8.cell? ⟨gb365, 0, none⟩ = some (.int .i64 0) := (bc BK365.out 0).trans rfl; have hcz9_1 : w8.cell? ⟨gb365, 1, none⟩ = some (.int .i64 0) := (bc BK365.out 1).trans rfl; have hcz9_2 : w8.cell? ⟨gb365, 2, none⟩ = some (.int .i64 0) := (bc BK365.out 2).trans rfl; have hcz9_3 : w8.cell? ⟨gb365, 3, none⟩ = some (.bool false) := (bc BK365.out 3).trans rfl; have hfz9_0 := bz BK365.out 0; have hfz9_1 := bz BK365.out 1; have hfz9_2 := bz BK365.out 2; have hfz9_3 := bz BK365.out 3))
        go_roundg k1
        case measure => have := HK1.out; omega
        case rel => exact ⟨(x3_1), (wrap64 (x8_1 + 1)), (by first | rfl | (simp; done) | (simp [*]; done)), H', ⟨by have := HK1.out; omega⟩, ⟨by (with_reducible repeat (first | apply Kd.Ra | apply Kd.Rn | apply Kd.Rd)); exact Kd.R_mono (Kd.Rf (p := ⟨gb365, 3, none⟩) (Kd.Rf (p := ⟨gb365, 2, none⟩) (Kd.Rf (p := ⟨gb365, 1, none⟩) (Kd.Rf (p := ⟨gb365, 0, none⟩) (Kd.R_types HO_3.out BK365.out (by decide)) (fun _ hk => hk.2) (.int .i64 ((rd_T84 l0 x8_1).f0))) (fun _ hk => hk.2) (.int .i64 ((rd_T84 l0 x8_1).f1))) (fun _ hk => hk.2) (.int .i64 ((rd_T84 l0 x8_1).f2))) (fun _ hk => hk.2) (.bool true)) (fun _ hk => trivial)⟩, ⟨by repeat (first | (with_reducible first | exact HB.out | apply wa | apply wN | apply wd | refine ws ?_ GE365.out) | exact HB.out)⟩⟩
      replace c7 := Bool.eq_false_iff.mpr c7
      subst c7
      have H1 : (if x3_1.length < 17592186044416 then (impl_IdleCells.l0 k1 (x3_1 ++ [(rd_T84 l0 x8_1).f1]) l0 (l0.length : Int) (wrap64 (x8_1 + 1))) else (none)) = some r := by rw [if_neg (show ¬ (false = true) by decide)] at H; exact H
      clear H
      have H := H1
      clear H1
      by_cases c10 : x3_1.length < 17592186044416
      rotate_left
      · rw [if_neg c10] at H
        exact absurd H (by simp)
      rw [if_pos c10] at H
      have LMc10 := Aside0.mk c10
      clear c10
      obtain ⟨y366, hy366⟩ : ∃ y_ : List Int, y_ = (x3_1 ++ [(rd_T84 l0 x8_1).f1]) := ⟨_, rfl⟩
      replace H : (impl_IdleCells.l0 k1 y366 l0 (l0.length : Int) (wrap64 (x8_1 + 1))) = some r := by first | (rw [hy366]; with_reducible exact H) | (have H2_ := (Option.bind_some _ _).symm.trans H; rw [hy366]; with_reducible exact H2_) | (have H2_ := (Option.bind_some _ _).symm.trans H; with_reducible exact H2_) | with_reducible exact H | (rw [hy366]; exact H) | exact H
      have Ny366 := Aside0.mk hy366
      clear hy366
      have H' := Aside0.mk H
      clear H
      have p364 : 0 ≤ (x8_1 : Int) := of_decide_eq_true (by first | (with_reducible assumption) | assumption)
      have q364 : x8_1 < (l0.length : Int) := of_decide_eq_true (by first | (with_reducible assumption) | assumption)
      obtain ⟨ad364, e364, hx364_0, hx364_1, hx364_2, hx364_3⟩ := at_T84 HR0.out x8_1 p364 q364
      (try rw [← Nbq6.out] at hx364_3) <;> (try rw [← Nbq6.out] at hw364_3)
      cases e364
      replace hx364_0 := (HB.out.cell (World.block_lt_of_cell? w _ hx364_0)).trans hx364_0
      replace hx364_1 := (HB.out.cell (World.block_lt_of_cell? w _ hx364_1)).trans hx364_1
      replace hx364_2 := (HB.out.cell (World.block_lt_of_cell? w _ hx364_2)).trans hx364_2
      replace hx364_3 := (HB.out.cell (World.block_lt_of_cell? w _ hx364_3)).trans hx364_3
      replace p364 := eq_true p364
      replace q364 := eq_true q364
      go_wp2_with (first | ((with_reducible refine gate_dst (N := 5) rfl ?_); refine box_event ?hg (N := 5) ?hd (cs := #[.int .i64 0, .int .i64 0, .int .i64 0, .bool false]) (t := 84) ?hr ?_; (case hd => rfl); (case hg => rfl); (case hr => first | (go_simp; done) | (go_simp; rfl)); intro gb365 hg w11 hbox hb; have n0_ := Aside0.mk (Kd.Rb (by (with_reducible repeat (first | apply Kd.Ra | apply Kd.Rn | apply Kd.Rd)); exact HO_3.out) hb); have n1_ := Aside0.mk (below_step (by repeat (first | (with_reducible first | exact HB.out | apply wa | apply wN | apply wd) | exact HB.out)) hb); have n2_ := Aside0.mk (hbox); have n3_ := Aside0.mk ((by rw [hg]; exact (below_size (by repeat (first | (with_reducible first | exact HB.out | apply wa | apply wN | apply wd) | exact HB.out))) : w.heap.size ≤ gb365)); have n4_ := n3_; clear HO_3; clear HB; have HO_3 := n0_; have HB := n1_; have BK365 := n2_; have GW365 := n3_; have GE365 := n4_; clear n0_ n1_ n2_ n3_ n4_; clear hb hbox hg; have hcz12_0 : w11.cell? ⟨gb365, 0, none⟩ = some (.int .i64 0) := (bc BK365.out 0).trans rfl; have hcz12_1 : w11.cell? ⟨gb365, 1, none⟩ = some (.int .i64 0) := (bc BK365.out 1).trans rfl; have hcz12_2 : w11.cell? ⟨gb365, 2, none⟩ = some (.int .i64 0) := (bc BK365.out 2).trans rfl; have hcz12_3 : w11.cell? ⟨gb365, 3, none⟩ = some (.bool false) := (bc BK365.out 3).trans rfl; have hfz12_0 := bz BK365.out 0; have hfz12_1 := bz BK365.out 1; have hfz12_2 := bz BK365.out 2; have hfz12_3 := bz BK365.out 3) | ((with_reducible refine gate_builtin (b := .append) (xs := #[.tmp 20, .tmp 23]) rfl ?_); at_builtin; refine Kd.R_append (Kd.int .i64) (w0 := w) w.heap.size rfl (.tmp 20) (.tmp 23) 31 3 (.int .i64 0) 8 rfl Try.underlying31 info3 rfl (by decide) (by omega) u3 x3_1 ((rd_T84 l0 x8_1).f1) [.int .i64 ((rd_T84 l0 x8_1).f1)] (fun _ => True) (fun _ => False) rfl (by first | (go_simp; done) | (go_simp; rfl)) ?aP (fun _ hk => hk.elim) ?aF ?aO ?aB ?aS ?aL ?_; (case aP => exact rfl); (case aB => exact (by repeat (first | (with_reducible first | exact HB.out | apply wa | apply wN | apply wd | refine ws ?_ GE365.out) | exact HB.out))); (case aF => exact (fun _ _ => trivial)); (case aO => exact (by (with_reducible repeat (first | apply Kd.Ra | apply Kd.Rn | apply Kd.Rd)); exact Kd.R_mono (Kd.Rf (p := ⟨gb365, 3, none⟩) (Kd.Rf (p := ⟨gb365, 2, none⟩) (Kd.Rf (p := ⟨gb365, 1, none⟩) (Kd.Rf (p := ⟨gb365, 0, none⟩) (Kd.R_types HO_3.out BK365.out (by decide)) (fun _ hk => hk.2) (.int .i64 ((rd_T84 l0 x8_1).f0))) (fun _ hk => hk.2) (.int .i64 ((rd_T84 l0 x8_1).f1))) (fun _ hk => hk.2) (.int .i64 ((rd_T84 l0 x8_1).f2))) (fun _ hk => hk.2) (.bool false)) (fun _ hk => trivial))); (case aS => exact (below_size (by repeat (first | (with_reducible first | exact HB.out | apply wa | apply wN | apply wd | refine ws ?_ GE365.out) | exact HB.out)))); (case aL => have := LMc10.out; omega); intro v367 w13 ho hb hg hat; rw [← Ny366.out] at ho; have n0_ := Aside0.mk (blk_grown (g := gb365) (o := .cells #[.int .i64 ((rd_T84 l0 x8_1).f0), .int .i64 ((rd_T84 l0 x8_1).f1), .int .i64 ((rd_T84 l0 x8_1).f2), .bool false] 84 (0, 0)) (by (with_reducible repeat first | apply bN | apply bd | apply ba); refine blk_put (cs := #[.int .i64 ((rd_T84 l0 x8_1).f0), .int .i64 ((rd_T84 l0 x8_1).f1), .int .i64 ((rd_T84 l0 x8_1).f2), .bool false]) ?_ 3 _ rfl; (with_reducible repeat first | apply bN | apply bd | apply ba); refine blk_put (cs := #[.int .i64 ((rd_T84 l0 x8_1).f0), .int .i64 ((rd_T84 l0 x8_1).f1), .int .i64 0, .bool false]) ?_ 2 _ rfl; (with_reducible repeat first | apply bN | apply bd | apply ba); refine blk_put (cs := #[.int .i64 ((rd_T84 l0 x8_1).f0), .int .i64 0, .int .i64 0, .bool false]) ?_ 1 _ rfl; (with_reducible repeat first | apply bN | apply bd | apply ba); refine blk_put (cs := #[.int .i64 0, .int .i64 0, .int .i64 0, .bool false]) ?_ 0 _ rfl; (with_reducible repeat first | apply bN | apply bd | apply ba); exact BK365.out) hg (Kd.R_ne HO_3.out BK365.out (by decide))); have n1_ := Aside0.mk (hb); have n2_ := Aside0.mk (ho); clear BK365; clear HB; clear HO_3; have BK365 := n0_; have HB := n1_; have HO368 := n2_; clear n0_ n1_ n2_; clear ho hb hg hat))
      go_roundg k1
      case measure => have := HK1.out; omega
      case rel => exact ⟨(y366), (wrap64 (x8_1 + 1)), (by first | rfl | (simp; done) | (simp [*]; done)), H', ⟨by have := HK1.out; omega⟩, ⟨by (with_reducible repeat (first | apply Kd.Ra | apply Kd.Rn | apply Kd.Rd)); exact HO368.out⟩, ⟨by repeat (first | (with_reducible first | exact HB.out | apply wa | apply wN | apply wd | refine ws ?_ GE365.out) | exact HB.out)⟩⟩

end Go.Proofs.Ytfinjkjnoobbjaa.MFnTeams
