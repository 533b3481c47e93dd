/- Made by a program of this session (out of the kit's print, with hand-made contracts): what each Go function that the law reaches computes, and that the machine's call does so. -/
import Derived.Test.YtomchkdbhcakoaaMFnExactLayerOfx0
namespace Go.Proofs.Ytomchkdbhcakoaa.MFnExactLayerOf
open Go.RowKit Go.Proofs.YtomchkdbhcakoaaW.PrintWords Go.Proofs.YtomchkdbhcakoaaW.PrintLast Go.Proofs.YtomchkdbhcakoaaW.PrintMore
attribute [local go_sem] max2_int min2_int max_two min_two max_three min_three max_four min_four   -- for this text's walks alone
set_option linter.unusedVariables false
set_option linter.unusedSimpArgs false

/-! ### spec_LayerOf: function 17 -/
def spec_LayerOf.l0 : Nat → Int → Int → Int → Int → ByteArray → Int → Int → Int → Int → List (S89) → Int → Int → List Int → Int → Bool → Int → Int → List (S159) → List (S103) → List Int → Option (Int)
  | 0, _, _, _, _, _, _, _, _, _, _, _, _, _, _, _, _, _, _, _, _ => none
  | k + 1, x3, x4, x249000, x249001, x249002, x249003, x249004, x249005, x249006, x249007, x249008, x249009, x249010, x249011, x249012, x249013, x249014, x249015, x249016, x249017 => if x4 < (x249016.length : Int) then (if x4 = 0 then (if 0 ≤ x4 then (spec_LayerOf.l0 k ((rd_T103 x249016 x4).f1) (wrap64 (x4 + 1)) x249000 x249001 x249002 x249003 x249004 x249005 x249006 x249007 x249008 x249009 x249010 x249011 x249012 x249013 x249014 x249015 x249016 x249017) else (none)) else (if 0 ≤ x4 then (if ((rd_T103 x249016 x4).f1) < x3 then (spec_LayerOf.l0 k ((rd_T103 x249016 x4).f1) (wrap64 (x4 + 1)) x249000 x249001 x249002 x249003 x249004 x249005 x249006 x249007 x249008 x249009 x249010 x249011 x249012 x249013 x249014 x249015 x249016 x249017) else (spec_LayerOf.l0 k x3 (wrap64 (x4 + 1)) x249000 x249001 x249002 x249003 x249004 x249005 x249006 x249007 x249008 x249009 x249010 x249011 x249012 x249013 x249014 x249015 x249016 x249017)) else (none))) else (some x3)
def spec_LayerOf.f (k : Nat) (a0_0 : Int) (a0_1 : Int) (a0_2 : ByteArray) (a0_3 : Int) (a0_4 : Int) (a0_5 : Int) (a0_6 : Int) (l0_7 : List (S89)) (a0_8 : Int) (a0_9 : Int) (l0_10 : List Int) (a0_11 : Int) (a0_12 : Bool) (a0_13 : Int) (a0_14 : Int) (l0_15 : List (S159)) (l0_16 : List (S103)) (l0_17 : List Int) : Option (Int) := spec_LayerOf.l0 k (-1) 0 a0_0 a0_1 a0_2 a0_3 a0_4 a0_5 a0_6 l0_7 a0_8 a0_9 l0_10 a0_11 a0_12 a0_13 a0_14 l0_15 l0_16 l0_17
theorem spec_LayerOf.mono_l : ∀ k, (∀ y0 y1 y2 y3 y4 y5 y6 y7 y8 y9 y10 y11 y12 y13 y14 y15 y16 y17 y18 y19, LeO (spec_LayerOf.l0 k y0 y1 y2 y3 y4 y5 y6 y7 y8 y9 y10 y11 y12 y13 y14 y15 y16 y17 y18 y19) (spec_LayerOf.l0 (k + 1) y0 y1 y2 y3 y4 y5 y6 y7 y8 y9 y10 y11 y12 y13 y14 y15 y16 y17 y18 y19))
  | 0 => fun _ _ _ _ _ _ _ _ _ _ _ _ _ _ _ _ _ _ _ _ r h => by simp [spec_LayerOf.l0] at h
  | k + 1 => by
    have ih0 := spec_LayerOf.mono_l k
    · intro y0 y1 y2 y3 y4 y5 y6 y7 y8 y9 y10 y11 y12 y13 y14 y15 y16 y17 y18 y19
      unfold spec_LayerOf.l0
      repeat' first
      | (with_reducible exact ih0 _ _ _ _ _ _ _ _ _ _ _ _ _ _ _ _ _ _ _ _)
      | (with_reducible exact LeO.refl _)
      | (with_reducible exact LeO.none _)
      | (with_reducible refine LeO.ite ?_ ?_)
      | (with_reducible refine LeO.bind ?_ (fun _ => ?_))
      | exact ih0 _ _ _ _ _ _ _ _ _ _ _ _ _ _ _ _ _ _ _ _
      | exact LeO.none _
      | refine LeO.ite ?_ ?_
      | refine LeO.bind ?_ (fun _ => ?_)
theorem spec_LayerOf.mono : ∀ a0 a1 a2 a3 a4 a5 a6 a7 a8 a9 a10 a11 a12 a13 a14 a15 a16 a17 k, LeO (spec_LayerOf.f k a0 a1 a2 a3 a4 a5 a6 a7 a8 a9 a10 a11 a12 a13 a14 a15 a16 a17) (spec_LayerOf.f (k + 1) a0 a1 a2 a3 a4 a5 a6 a7 a8 a9 a10 a11 a12 a13 a14 a15 a16 a17) := by
  intro a0 a1 a2 a3 a4 a5 a6 a7 a8 a9 a10 a11 a12 a13 a14 a15 a16 a17 k
  have ih0 := spec_LayerOf.mono_l k
  unfold spec_LayerOf.f
  repeat' first
      | (with_reducible exact ih0 _ _ _ _ _ _ _ _ _ _ _ _ _ _ _ _ _ _ _ _)
      | (with_reducible exact LeO.refl _)
      | (with_reducible exact LeO.none _)
      | (with_reducible refine LeO.ite ?_ ?_)
      | (with_reducible refine LeO.bind ?_ (fun _ => ?_))
      | exact ih0 _ _ _ _ _ _ _ _ _ _ _ _ _ _ _ _ _ _ _ _
      | exact LeO.none _
      | refine LeO.ite ?_ ?_
      | refine LeO.bind ?_ (fun _ => ?_)
set_option maxHeartbeats 8000000 in
set_option maxRecDepth 100000 in
theorem spec_LayerOf.calls (k : Nat) (a0_0 : Int) (a0_1 : Int) (a0_2 : ByteArray) (a0_3 : Int) (a0_4 : Int) (a0_5 : Int) (a0_6 : Int) (A0_7 : Option Addr) (c0_7 : Nat) (l0_7 : List (S89)) (a0_8 : Int) (a0_9 : Int) (A0_10 : Option Addr) (c0_10 : Nat) (l0_10 : List Int) (a0_11 : Int) (a0_12 : Bool) (a0_13 : Int) (a0_14 : Int) (A0_15 : Option Addr) (c0_15 : Nat) (l0_15 : List (S159)) (A0_16 : Option Addr) (c0_16 : Nat) (l0_16 : List (S103)) (A0_17 : Option Addr) (c0_17 : Nat) (l0_17 : List Int) (r : Int) (w : World) (hr0_7 : Kd.C k89 w A0_7 l0_7.length l0_7) (hc0_7 : l0_7.length ≤ c0_7) (hr0_10 : Kd.C (Kd.int .i64) w A0_10 l0_10.length l0_10) (hc0_10 : l0_10.length ≤ c0_10) (hr0_15 : Kd.C k159 w A0_15 l0_15.length l0_15) (hc0_15 : l0_15.length ≤ c0_15) (hr0_16 : Kd.C k103 w A0_16 l0_16.length l0_16) (hc0_16 : l0_16.length ≤ c0_16) (hr0_17 : Kd.C (Kd.int .i64) w A0_17 l0_17.length l0_17) (hc0_17 : l0_17.length ≤ c0_17) (h : spec_LayerOf.f k a0_0 a0_1 a0_2 a0_3 a0_4 a0_5 a0_6 l0_7 a0_8 a0_9 l0_10 a0_11 a0_12 a0_13 a0_14 l0_15 l0_16 l0_17 = some r) :
    Calls Try.prog 17 #[.agg #[.int .i64 a0_0, .int .i64 a0_1, .string a0_2, .int .i64 a0_3, .int .i64 a0_4, .int .i64 a0_5, .int .i64 a0_6, .slice A0_7 l0_7.length c0_7, .int .i64 a0_8, .int .i64 a0_9, .slice A0_10 l0_10.length c0_10, .int .i64 a0_11, .bool a0_12, .int .i64 a0_13, .int .i64 a0_14, .slice A0_15 l0_15.length c0_15, .slice A0_16 l0_16.length c0_16, .slice A0_17 l0_17.length c0_17]] w fun e w' => e = .returned (.int .i64 r) ∧ Below w.heap.size w w' := by
  have hu48 := Try.underlying48
  have HR0_7 := Aside0.mk hr0_7
  have HC0_7 := Aside0.mk hc0_7
  clear hr0_7 hc0_7
  have HR0_10 := Aside0.mk hr0_10
  have HC0_10 := Aside0.mk hc0_10
  clear hr0_10 hc0_10
  have HR0_15 := Aside0.mk hr0_15
  have HC0_15 := Aside0.mk hc0_15
  clear hr0_15 hc0_15
  have HR0_16 := Aside0.mk hr0_16
  have HC0_16 := Aside0.mk hc0_16
  clear hr0_16 hc0_16
  have HR0_17 := Aside0.mk hr0_17
  have HC0_17 := Aside0.mk hc0_17
  clear hr0_17 hc0_17
  have HB := Aside0.mk (Below.refl w.heap.size w)
  have H : (spec_LayerOf.l0 k (-1) 0 a0_0 a0_1 a0_2 a0_3 a0_4 a0_5 a0_6 l0_7 a0_8 a0_9 l0_10 a0_11 a0_12 a0_13 a0_14 l0_15 l0_16 l0_17) = some r := h
  clear h
  have H' := Aside0.mk H
  clear H
  go_enter Try.func17, Try.ntmps17
  go_wp2_with (first | ((with_reducible refine gate_dst (N := 1) rfl ?_); refine box_event ?hg (N := 1) ?hd (cs := #[.int .i64 a0_0, .int .i64 a0_1, .string a0_2, .int .i64 a0_3, .int .i64 a0_4, .int .i64 a0_5, .int .i64 a0_6, .slice A0_7 l0_7.length c0_7, .int .i64 a0_8, .int .i64 a0_9, .slice A0_10 l0_10.length c0_10, .int .i64 a0_11, .bool a0_12, .int .i64 a0_13, .int .i64 a0_14, .slice A0_15 l0_15.length c0_15, .slice A0_16 l0_16.length c0_16, .slice A0_17 l0_17.length c0_17]) (t := 48) ?hr ?_; (case hd => rfl); (case hg => rfl); (case hr => first | (go_simp; done) | (go_simp; rfl)); intro gb248 hg w2 hbox hb; have n0_ := Aside0.mk (below_step (by repeat (first | (with_reducible first | exact HB.out | apply below_alloc | apply pw_below_drewN | apply below_drew1) | exact HB.out)) hb); have n1_ := Aside0.mk (hbox); have n2_ := Aside0.mk ((by rw [hg]; exact (below_size (by repeat (first | (with_reducible first | exact HB.out | apply below_alloc | apply pw_below_drewN | apply below_drew1) | exact HB.out))) : w.heap.size ≤ gb248)); have n3_ := Aside0.mk ((by rw [hg]; exact (below_size (by repeat (first | (with_reducible first | exact HB.out | apply below_alloc | apply pw_below_drewN | apply below_drew1) | exact HB.out))) : w.heap.size ≤ gb248)); clear HB; have HB := n0_; have BK248 := n1_; have GW248 := n2_; have GE248 := n3_; clear n0_ n1_ n2_ n3_; clear hb hbox hg))
  go_loopg [3, 4] k (fun kq v3 v4 w' => ∃ (x3_1 : Int) (x4_1 : Int), v3 = .int .i64 x3_1 ∧ v4 = .int .i64 x4_1 ∧ Aside0 (spec_LayerOf.l0 kq x3_1 x4_1 a0_0 a0_1 a0_2 a0_3 a0_4 a0_5 a0_6 l0_7 a0_8 a0_9 l0_10 a0_11 a0_12 a0_13 a0_14 l0_15 l0_16 l0_17 = some r) ∧ Aside0 (kq ≤ k) ∧ Aside0 (w'.heap[gb248]? = some (.cells #[.int .i64 a0_0, .int .i64 a0_1, .string a0_2, .int .i64 a0_3, .int .i64 a0_4, .int .i64 a0_5, .int .i64 a0_6, (.slice A0_7 l0_7.length c0_7), .int .i64 a0_8, .int .i64 a0_9, (.slice A0_10 l0_10.length c0_10), .int .i64 a0_11, .bool a0_12, .int .i64 a0_13, .int .i64 a0_14, (.slice A0_15 l0_15.length c0_15), (.slice A0_16 l0_16.length c0_16), (.slice A0_17 l0_17.length c0_17)] 48 (0, 0))) ∧ Aside0 (Below w.heap.size w w'))
  case atStart => exact ⟨((-1)), (0), (by first | rfl | (simp; done) | (simp [*]; done)), (by first | rfl | (simp; done) | (simp [*]; done)), H', ⟨Nat.le_refl _⟩, ⟨by (with_reducible repeat (first | refine blk_drewN ?_ _ | refine blk_drew ?_ | refine blk_alloc ?_ _)); exact BK248.out⟩, ⟨by repeat (first | (with_reducible first | exact HB.out | apply below_alloc | apply pw_below_drewN | apply below_drew1 | refine below_set ?_ GE248.out) | exact HB.out)⟩⟩
  case round =>
    clear H'
    try clear c1
    try clear p2
    obtain ⟨x3_1, x4_1, rfl, rfl, HA, HK1, BK248, HB⟩ := hrel
    cases gk with
    | zero => exact absurd HA.out (by simp [spec_LayerOf.l0])
    | succ k1 =>
      have H := HA.out
      clear HA
      simp only [spec_LayerOf.l0] at H
      by_cases c3 : x4_1 < (l0_16.length : Int)
      · rw [if_pos c3] at H
        have c3b0 : decide (x4_1 < (l0_16.length : Int)) = true := decide_eq_true c3
        clear c3
        by_cases c4 : x4_1 = 0
        · rw [if_pos c4] at H
          have c4b0 : (x4_1 == 0) = true := beq_iff_eq.mpr c4
          have c4b1 : (x4_1 != 0) = false := bne_eq_false_iff_eq.mpr c4
          clear c4
          by_cases c5 : 0 ≤ x4_1
          · rw [if_pos c5] at H
            have c5b0 : decide (0 ≤ x4_1) = true := decide_eq_true c5
            clear c5
            have H' := Aside0.mk H
            clear H
            have hcz6_0 : wr.cell? ⟨gb248, 0, none⟩ = some (.int .i64 a0_0) := (blk_cell BK248.out 0).trans rfl
            have hcz6_1 : wr.cell? ⟨gb248, 1, none⟩ = some (.int .i64 a0_1) := (blk_cell BK248.out 1).trans rfl
            have hcz6_2 : wr.cell? ⟨gb248, 2, none⟩ = some (.string a0_2) := (blk_cell BK248.out 2).trans rfl
            have hcz6_3 : wr.cell? ⟨gb248, 3, none⟩ = some (.int .i64 a0_3) := (blk_cell BK248.out 3).trans rfl
            have hcz6_4 : wr.cell? ⟨gb248, 4, none⟩ = some (.int .i64 a0_4) := (blk_cell BK248.out 4).trans rfl
            have hcz6_5 : wr.cell? ⟨gb248, 5, none⟩ = some (.int .i64 a0_5) := (blk_cell BK248.out 5).trans rfl
            have hcz6_6 : wr.cell? ⟨gb248, 6, none⟩ = some (.int .i64 a0_6) := (blk_cell BK248.out 6).trans rfl
            have hcz6_7 : wr.cell? ⟨gb248, 7, none⟩ = some (.slice A0_7 l0_7.length c0_7) := (blk_cell BK248.out 7).trans rfl
            have hcz6_8 : wr.cell? ⟨gb248, 8, none⟩ = some (.int .i64 a0_8) := (blk_cell BK248.out 8).trans rfl
            have hcz6_9 : wr.cell? ⟨gb248, 9, none⟩ = some (.int .i64 a0_9) := (blk_cell BK248.out 9).trans rfl
            have hcz6_10 : wr.cell? ⟨gb248, 10, none⟩ = some (.slice A0_10 l0_10.length c0_10) := (blk_cell BK248.out 10).trans rfl
            have hcz6_11 : wr.cell? ⟨gb248, 11, none⟩ = some (.int .i64 a0_11) := (blk_cell BK248.out 11).trans rfl
            have hcz6_12 : wr.cell? ⟨gb248, 12, none⟩ = some (.bool a0_12) := (blk_cell BK248.out 12).trans rfl
            have hcz6_13 : wr.cell? ⟨gb248, 13, none⟩ = some (.int .i64 a0_13) := (blk_cell BK248.out 13).trans rfl
            have hcz6_14 : wr.cell? ⟨gb248, 14, none⟩ = some (.int .i64 a0_14) := (blk_cell BK248.out 14).trans rfl
            have hcz6_15 : wr.cell? ⟨gb248, 15, none⟩ = some (.slice A0_15 l0_15.length c0_15) := (blk_cell BK248.out 15).trans rfl
            have hcz6_16 : wr.cell? ⟨gb248, 16, none⟩ = some (.slice A0_16 l0_16.length c0_16) := (blk_cell BK248.out 16).trans rfl
            have hcz6_17 : wr.cell? ⟨gb248, 17, none⟩ = some (.slice A0_17 l0_17.length c0_17) := (blk_cell BK248.out 17).trans rfl
            have hfz6_0 := blk_frozen BK248.out 0
            have hfz6_1 := blk_frozen BK248.out 1
            have hfz6_2 := blk_frozen BK248.out 2
            have hfz6_3 := blk_frozen BK248.out 3
            have hfz6_4 := blk_frozen BK248.out 4
            have hfz6_5 := blk_frozen BK248.out 5
            have hfz6_6 := blk_frozen BK248.out 6
            have hfz6_7 := blk_frozen BK248.out 7
            have hfz6_8 := blk_frozen BK248.out 8
            have hfz6_9 := blk_frozen BK248.out 9
            have hfz6_10 := blk_frozen BK248.out 10
            have hfz6_11 := blk_frozen BK248.out 11
            have hfz6_12 := blk_frozen BK248.out 12
            have hfz6_13 := blk_frozen BK248.out 13
            have hfz6_14 := blk_frozen BK248.out 14
            have hfz6_15 := blk_frozen BK248.out 15
            have hfz6_16 := blk_frozen BK248.out 16
            have hfz6_17 := blk_frozen BK248.out 17
            have p249 : 0 ≤ (x4_1 : Int) := of_decide_eq_true (by first | (with_reducible assumption) | assumption)
            have q249 : x4_1 < (l0_16.length : Int) := of_decide_eq_true (by first | (with_reducible assumption) | assumption)
            obtain ⟨ad249, e249, hx249_0, hx249_1, hx249_2⟩ := at_T103 HR0_16.out x4_1 p249 q249
            cases e249
            replace hx249_0 := (HB.out.cell (World.block_lt_of_cell? w _ hx249_0)).trans hx249_0
            replace hx249_1 := (HB.out.cell (World.block_lt_of_cell? w _ hx249_1)).trans hx249_1
            replace hx249_2 := (HB.out.cell (World.block_lt_of_cell? w _ hx249_2)).trans hx249_2
            replace p249 := eq_true p249
            replace q249 := eq_true q249
            go_wp2
            go_roundg k1
            case measure => have := HK1.out; omega
            case rel => exact ⟨((rd_T103 l0_16 x4_1).f1), (wrap64 (x4_1 + 1)), (by first | rfl | (simp; done) | (simp [*]; done)), (by first | rfl | (simp; done) | (simp [*]; done)), H', ⟨by have := HK1.out; omega⟩, ⟨by (with_reducible repeat (first | refine blk_drewN ?_ _ | refine blk_drew ?_ | refine blk_alloc ?_ _)); exact BK248.out⟩, ⟨by repeat (first | (with_reducible first | exact HB.out | apply below_alloc | apply pw_below_drewN | apply below_drew1 | refine below_set ?_ GE248.out) | exact HB.out)⟩⟩
          · rw [if_neg c5] at H
            exact absurd H (by simp)
        · rw [if_neg c4] at H
          have c4b0 : (x4_1 == 0) = false := beq_eq_false_iff_ne.mpr c4
          have c4b1 : (x4_1 != 0) = true := bne_iff_ne.mpr c4
          by_cases c7 : 0 ≤ x4_1
          · rw [if_pos c7] at H
            have c7b0 : decide (0 ≤ x4_1) = true := decide_eq_true c7
            clear c7
            by_cases c8 : ((rd_T103 l0_16 x4_1).f1) < x3_1
            · rw [if_pos c8] at H
              have c8b0 : decide (((rd_T103 l0_16 x4_1).f1) < x3_1) = true := decide_eq_true c8
              clear c8
              have H' := Aside0.mk H
              clear H
              have hcz9_0 : wr.cell? ⟨gb248, 0, none⟩ = some (.int .i64 a0_0) := (blk_cell BK248.out 0).trans rfl
              have hcz9_1 : wr.cell? ⟨gb248, 1, none⟩ = some (.int .i64 a0_1) := (blk_cell BK248.out 1).trans rfl
              have hcz9_2 : wr.cell? ⟨gb248, 2, none⟩ = some (.string a0_2) := (blk_cell BK248.out 2).trans rfl
              have hcz9_3 : wr.cell? ⟨gb248, 3, none⟩ = some (.int .i64 a0_3) := (blk_cell BK248.out 3).trans rfl
              have hcz9_4 : wr.cell? ⟨gb248, 4, none⟩ = some (.int .i64 a0_4) := (blk_cell BK248.out 4).trans rfl
              have hcz9_5 : wr.cell? ⟨gb248, 5, none⟩ = some (.int .i64 a0_5) := (blk_cell BK248.out 5).trans rfl
              have hcz9_6 : wr.cell? ⟨gb248, 6, none⟩ = some (.int .i64 a0_6) := (blk_cell BK248.out 6).trans rfl
              have hcz9_7 : wr.cell? ⟨gb248, 7, none⟩ = some (.slice A0_7 l0_7.length c0_7) := (blk_cell BK248.out 7).trans rfl
              have hcz9_8 : wr.cell? ⟨gb248, 8, none⟩ = some (.int .i64 a0_8) := (blk_cell BK248.out 8).trans rfl
              have hcz9_9 : wr.cell? ⟨gb248, 9, none⟩ = some (.int .i64 a0_9) := (blk_cell BK248.out 9).trans rfl
              have hcz9_10 : wr.cell? ⟨gb248, 10, none⟩ = some (.slice A0_10 l0_10.length c0_10) := (blk_cell BK248.out 10).trans rfl
              have hcz9_11 : wr.cell? ⟨gb248, 11, none⟩ = some (.int .i64 a0_11) := (blk_cell BK248.out 11).trans rfl
              have hcz9_12 : wr.cell? ⟨gb248, 12, none⟩ = some (.bool a0_12) := (blk_cell BK248.out 12).trans rfl
              have hcz9_13 : wr.cell? ⟨gb248, 13, none⟩ = some (.int .i64 a0_13) := (blk_cell BK248.out 13).trans rfl
              have hcz9_14 : wr.cell? ⟨gb248, 14, none⟩ = some (.int .i64 a0_14) := (blk_cell BK248.out 14).trans rfl
              have hcz9_15 : wr.cell? ⟨gb248, 15, none⟩ = some (.slice A0_15 l0_15.length c0_15) := (blk_cell BK248.out 15).trans rfl
              have hcz9_16 : wr.cell? ⟨gb248, 16, none⟩ = some (.slice A0_16 l0_16.length c0_16) := (blk_cell BK248.out 16).trans rfl
              have hcz9_17 : wr.cell? ⟨gb248, 17, none⟩ = some (.slice A0_17 l0_17.length c0_17) := (blk_cell BK248.out 17).trans rfl
              have hfz9_0 := blk_frozen BK248.out 0
              have hfz9_1 := blk_frozen BK248.out 1
              have hfz9_2 := blk_frozen BK248.out 2
              have hfz9_3 := blk_frozen BK248.out 3
              have hfz9_4 := blk_frozen BK248.out 4
              have hfz9_5 := blk_frozen BK248.out 5
              have hfz9_6 := blk_frozen BK248.out 6
              have hfz9_7 := blk_frozen BK248.out 7
              have hfz9_8 := blk_frozen BK248.out 8
              have hfz9_9 := blk_frozen BK248.out 9
              have hfz9_10 := blk_frozen BK248.out 10
              have hfz9_11 := blk_frozen BK248.out 11
              have hfz9_12 := blk_frozen BK248.out 12
              have hfz9_13 := blk_frozen BK248.out 13
              have hfz9_14 := blk_frozen BK248.out 14
              have hfz9_15 := blk_frozen BK248.out 15
              have hfz9_16 := blk_frozen BK248.out 16
              have hfz9_17 := blk_frozen BK248.out 17
              have p250 : 0 ≤ (x4_1 : Int) := of_decide_eq_true (by first | (with_reducible assumption) | assumption)
              have q250 : x4_1 < (l0_16.length : Int) := of_decide_eq_true (by first | (with_reducible assumption) | assumption)
              obtain ⟨ad250, e250, hx250_0, hx250_1, hx250_2⟩ := at_T103 HR0_16.out x4_1 p250 q250
              cases e250
              replace hx250_0 := (HB.out.cell (World.block_lt_of_cell? w _ hx250_0)).trans hx250_0
              replace hx250_1 := (HB.out.cell (World.block_lt_of_cell? w _ hx250_1)).trans hx250_1
              replace hx250_2 := (HB.out.cell (World.block_lt_of_cell? w _ hx250_2)).trans hx250_2
              replace p250 := eq_true p250
              replace q250 := eq_true q250
              have p251 : 0 ≤ (x4_1 : Int) := of_decide_eq_true (by first | (with_reducible assumption) | assumption)
              have q251 : x4_1 < (l0_16.length : Int) := of_decide_eq_true (by first | (with_reducible assumption) | assumption)
              obtain ⟨ad251, e251, hx251_0, hx251_1, hx251_2⟩ := at_T103 HR0_16.out x4_1 p251 q251
              obtain rfl : ad250 = ad251 := (by injection e251)
              replace hx251_0 := (HB.out.cell (World.block_lt_of_cell? w _ hx251_0)).trans hx251_0
              replace hx251_1 := (HB.out.cell (World.block_lt_of_cell? w _ hx251_1)).trans hx251_1
              replace hx251_2 := (HB.out.cell (World.block_lt_of_cell? w _ hx251_2)).trans hx251_2
              replace p251 := eq_true p251
              replace q251 := eq_true q251
              go_wp2
              go_roundg k1
              case measure => have := HK1.out; omega
              case rel => exact ⟨((rd_T103 l0_16 x4_1).f1), (wrap64 (x4_1 + 1)), (by first | rfl | (simp; done) | (simp [*]; done)), (by first | rfl | (simp; done) | (simp [*]; done)), H', ⟨by have := HK1.out; omega⟩, ⟨by (with_reducible repeat (first | refine blk_drewN ?_ _ | refine blk_drew ?_ | refine blk_alloc ?_ _)); exact BK248.out⟩, ⟨by repeat (first | (with_reducible first | exact HB.out | apply below_alloc | apply pw_below_drewN | apply below_drew1 | refine below_set ?_ GE248.out) | exact HB.out)⟩⟩
            · rw [if_neg c8] at H
              have c8b0 : decide (((rd_T103 l0_16 x4_1).f1) < x3_1) = false := decide_eq_false c8
              clear c8
              have H' := Aside0.mk H
              clear H
              have hcz10_0 : wr.cell? ⟨gb248, 0, none⟩ = some (.int .i64 a0_0) := (blk_cell BK248.out 0).trans rfl
              have hcz10_1 : wr.cell? ⟨gb248, 1, none⟩ = some (.int .i64 a0_1) := (blk_cell BK248.out 1).trans rfl
              have hcz10_2 : wr.cell? ⟨gb248, 2, none⟩ = some (.string a0_2) := (blk_cell BK248.out 2).trans rfl
              have hcz10_3 : wr.cell? ⟨gb248, 3, none⟩ = some (.int .i64 a0_3) := (blk_cell BK248.out 3).trans rfl
              have hcz10_4 : wr.cell? ⟨gb248, 4, none⟩ = some (.int .i64 a0_4) := (blk_cell BK248.out 4).trans rfl
              have hcz10_5 : wr.cell? ⟨gb248, 5, none⟩ = some (.int .i64 a0_5) := (blk_cell BK248.out 5).trans rfl
              have hcz10_6 : wr.cell? ⟨gb248, 6, none⟩ = some (.int .i64 a0_6) := (blk_cell BK248.out 6).trans rfl
              have hcz10_7 : wr.cell? ⟨gb248, 7, none⟩ = some (.slice A0_7 l0_7.length c0_7) := (blk_cell BK248.out 7).trans rfl
              have hcz10_8 : wr.cell? ⟨gb248, 8, none⟩ = some (.int .i64 a0_8) := (blk_cell BK248.out 8).trans rfl
              have hcz10_9 : wr.cell? ⟨gb248, 9, none⟩ = some (.int .i64 a0_9) := (blk_cell BK248.out 9).trans rfl
              have hcz10_10 : wr.cell? ⟨gb248, 10, none⟩ = some (.slice A0_10 l0_10.length c0_10) := (blk_cell BK248.out 10).trans rfl
              have hcz10_11 : wr.cell? ⟨gb248, 11, none⟩ = some (.int .i64 a0_11) := (blk_cell BK248.out 11).trans rfl
              have hcz10_12 : wr.cell? ⟨gb248, 12, none⟩ = some (.bool a0_12) := (blk_cell BK248.out 12).trans rfl
              have hcz10_13 : wr.cell? ⟨gb248, 13, none⟩ = some (.int .i64 a0_13) := (blk_cell BK248.out 13).trans rfl
              have hcz10_14 : wr.cell? ⟨gb248, 14, none⟩ = some (.int .i64 a0_14) := (blk_cell BK248.out 14).trans rfl
              have hcz10_15 : wr.cell? ⟨gb248, 15, none⟩ = some (.slice A0_15 l0_15.length c0_15) := (blk_cell BK248.out 15).trans rfl
              have hcz10_16 : wr.cell? ⟨gb248, 16, none⟩ = some (.slice A0_16 l0_16.length c0_16) := (blk_cell BK248.out 16).trans rfl
              have hcz10_17 : wr.cell? ⟨gb248, 17, none⟩ = some (.slice A0_17 l0_17.length c0_17) := (blk_cell BK248.out 17).trans rfl
              have hfz10_0 := blk_frozen BK248.out 0
              have hfz10_1 := blk_frozen BK248.out 1
              have hfz10_2 := blk_frozen BK248.out 2
              have hfz10_3 := blk_frozen BK248.out 3
              have hfz10_4 := blk_frozen BK248.out 4
              have hfz10_5 := blk_frozen BK248.out 5
              have hfz10_6 := blk_frozen BK248.out 6
              have hfz10_7 := blk_frozen BK248.out 7
              have hfz10_8 := blk_frozen BK248.out 8
              have hfz10_9 := blk_frozen BK248.out 9
              have hfz10_10 := blk_frozen BK248.out 10
              have hfz10_11 := blk_frozen BK248.out 11
              have hfz10_12 := blk_frozen BK248.out 12
              have hfz10_13 := blk_frozen BK248.out 13
              have hfz10_14 := blk_frozen BK248.out 14
              have hfz10_15 := blk_frozen BK248.out 15
              have hfz10_16 := blk_frozen BK248.out 16
              have hfz10_17 := blk_frozen BK248.out 17
              have p250 : 0 ≤ (x4_1 : Int) := of_decide_eq_true (by first | (with_reducible assumption) | assumption)
              have q250 : x4_1 < (l0_16.length : Int) := of_decide_eq_true (by first | (with_reducible assumption) | assumption)
              obtain ⟨ad250, e250, hx250_0, hx250_1, hx250_2⟩ := at_T103 HR0_16.out x4_1 p250 q250
              cases e250
              replace hx250_0 := (HB.out.cell (World.block_lt_of_cell? w _ hx250_0)).trans hx250_0
              replace hx250_1 := (HB.out.cell (World.block_lt_of_cell? w _ hx250_1)).trans hx250_1
              replace hx250_2 := (HB.out.cell (World.block_lt_of_cell? w _ hx250_2)).trans hx250_2
              replace p250 := eq_true p250
              replace q250 := eq_true q250
              go_wp2
              go_roundg k1
              case measure => have := HK1.out; omega
              case rel => exact ⟨(x3_1), (wrap64 (x4_1 + 1)), (by first | rfl | (simp; done) | (simp [*]; done)), (by first | rfl | (simp; done) | (simp [*]; done)), H', ⟨by have := HK1.out; omega⟩, ⟨by (with_reducible repeat (first | refine blk_drewN ?_ _ | refine blk_drew ?_ | refine blk_alloc ?_ _)); exact BK248.out⟩, ⟨by repeat (first | (with_reducible first | exact HB.out | apply below_alloc | apply pw_below_drewN | apply below_drew1 | refine below_set ?_ GE248.out) | exact HB.out)⟩⟩
          · rw [if_neg c7] at H
            exact absurd H (by simp)
      · rw [if_neg c3] at H
        have c3b0 : decide (x4_1 < (l0_16.length : Int)) = false := decide_eq_false c3
        clear c3
        obtain rfl := Option.some.inj H
        have hcz11_0 : wr.cell? ⟨gb248, 0, none⟩ = some (.int .i64 a0_0) := (blk_cell BK248.out 0).trans rfl
        have hcz11_1 : wr.cell? ⟨gb248, 1, none⟩ = some (.int .i64 a0_1) := (blk_cell BK248.out 1).trans rfl
        have hcz11_2 : wr.cell? ⟨gb248, 2, none⟩ = some (.string a0_2) := (blk_cell BK248.out 2).trans rfl
        have hcz11_3 : wr.cell? ⟨gb248, 3, none⟩ = some (.int .i64 a0_3) := (blk_cell BK248.out 3).trans rfl
        have hcz11_4 : wr.cell? ⟨gb248, 4, none⟩ = some (.int .i64 a0_4) := (blk_cell BK248.out 4).trans rfl
        have hcz11_5 : wr.cell? ⟨gb248, 5, none⟩ = some (.int .i64 a0_5) := (blk_cell BK248.out 5).trans rfl
        have hcz11_6 : wr.cell? ⟨gb248, 6, none⟩ = some (.int .i64 a0_6) := (blk_cell BK248.out 6).trans rfl
        have hcz11_7 : wr.cell? ⟨gb248, 7, none⟩ = some (.slice A0_7 l0_7.length c0_7) := (blk_cell BK248.out 7).trans rfl
        have hcz11_8 : wr.cell? ⟨gb248, 8, none⟩ = some (.int .i64 a0_8) := (blk_cell BK248.out 8).trans rfl
        have hcz11_9 : wr.cell? ⟨gb248, 9, none⟩ = some (.int .i64 a0_9) := (blk_cell BK248.out 9).trans rfl
        have hcz11_10 : wr.cell? ⟨gb248, 10, none⟩ = some (.slice A0_10 l0_10.length c0_10) := (blk_cell BK248.out 10).trans rfl
        have hcz11_11 : wr.cell? ⟨gb248, 11, none⟩ = some (.int .i64 a0_11) := (blk_cell BK248.out 11).trans rfl
        have hcz11_12 : wr.cell? ⟨gb248, 12, none⟩ = some (.bool a0_12) := (blk_cell BK248.out 12).trans rfl
        have hcz11_13 : wr.cell? ⟨gb248, 13, none⟩ = some (.int .i64 a0_13) := (blk_cell BK248.out 13).trans rfl
        have hcz11_14 : wr.cell? ⟨gb248, 14, none⟩ = some (.int .i64 a0_14) := (blk_cell BK248.out 14).trans rfl
        have hcz11_15 : wr.cell? ⟨gb248, 15, none⟩ = some (.slice A0_15 l0_15.length c0_15) := (blk_cell BK248.out 15).trans rfl
        have hcz11_16 : wr.cell? ⟨gb248, 16, none⟩ = some (.slice A0_16 l0_16.length c0_16) := (blk_cell BK248.out 16).trans rfl
        have hcz11_17 : wr.cell? ⟨gb248, 17, none⟩ = some (.slice A0_17 l0_17.length c0_17) := (blk_cell BK248.out 17).trans rfl
        have hfz11_0 := blk_frozen BK248.out 0
        have hfz11_1 := blk_frozen BK248.out 1
        have hfz11_2 := blk_frozen BK248.out 2
        have hfz11_3 := blk_frozen BK248.out 3
        have hfz11_4 := blk_frozen BK248.out 4
        have hfz11_5 := blk_frozen BK248.out 5
        have hfz11_6 := blk_frozen BK248.out 6
        have hfz11_7 := blk_frozen BK248.out 7
        have hfz11_8 := blk_frozen BK248.out 8
        have hfz11_9 := blk_frozen BK248.out 9
        have hfz11_10 := blk_frozen BK248.out 10
        have hfz11_11 := blk_frozen BK248.out 11
        have hfz11_12 := blk_frozen BK248.out 12
        have hfz11_13 := blk_frozen BK248.out 13
        have hfz11_14 := blk_frozen BK248.out 14
        have hfz11_15 := blk_frozen BK248.out 15
        have hfz11_16 := blk_frozen BK248.out 16
        have hfz11_17 := blk_frozen BK248.out 17
        go_wp2
        go_ret
        exact ⟨by first | rfl | (simp [errW_none, errW_some] <;> rfl) | (simp [*, errW_none, errW_some] <;> rfl), by repeat (first | (with_reducible first | exact HB.out | apply below_alloc | apply pw_below_drewN | apply below_drew1 | refine below_set ?_ GE248.out) | exact HB.out)⟩

end Go.Proofs.Ytomchkdbhcakoaa.MFnExactLayerOf
