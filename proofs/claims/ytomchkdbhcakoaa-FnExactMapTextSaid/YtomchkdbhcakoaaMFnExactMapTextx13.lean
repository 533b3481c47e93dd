/- Made by a program of this session (out of the kit's print, with hand-made contracts): what each Go function that the law reaches computes, and that the machine's call does so. -/
import Derived.Test.YtomchkdbhcakoaaMFnExactMapTextx0
import Derived.Test.YtomchkdbhcakoaaMFnExactMapTextx11
import Derived.Test.YtomchkdbhcakoaaMFnExactMapTextx12
namespace Go.Proofs.Ytomchkdbhcakoaa.MFnExactMapText
open Go.RowKit Go.Proofs.YtomchkdbhcakoaaW.PrintWords Go.Proofs.YtomchkdbhcakoaaW.PrintLast Go.Proofs.YtomchkdbhcakoaaW.PrintMore
attribute [local go_sem] max2_int min2_int max_two min_two max_three min_three max_four min_four   -- for this text's walks alone
set_option linter.unusedVariables false
set_option linter.unusedSimpArgs false

/-! ### spec_l29Cell: function 102 -/
mutual
def spec_l29Cell.l0 : Nat → Int → Int → Int → Int → ByteArray → Int → Int → Int → Int → List (S89) → Int → Int → List Int → Int → Bool → Int → Int → List (S159) → List (S103) → List Int → Option (Int)
  | 0, _, _, _, _, _, _, _, _, _, _, _, _, _, _, _, _, _, _, _, _ => none
  | k + 1, x1, x5, x269000, x269001, x269002, x269003, x269004, x269005, x269006, x269007, x269008, x269009, x269010, x269011, x269012, x269013, x269014, x269015, x269016, x269017 => if x5 < (x269007.length : Int) then (if 0 ≤ x5 then (if ((rd_T89 x269007 x5).f1) = x1 then ((spec_l29Sized.f (Int.tmod ((rd_T89 x269007 x5).f0) 10)).bind fun t272 => (some ((wrap64 (48 + t272)) % 256))) else (spec_l29Cell.l0 k x1 (wrap64 (x5 + 1)) x269000 x269001 x269002 x269003 x269004 x269005 x269006 x269007 x269008 x269009 x269010 x269011 x269012 x269013 x269014 x269015 x269016 x269017)) else (none)) else (spec_l29Cell.l1 k x1 0 x269000 x269001 x269002 x269003 x269004 x269005 x269006 x269007 x269008 x269009 x269010 x269011 x269012 x269013 x269014 x269015 x269016 x269017)
def spec_l29Cell.l1 : Nat → Int → Int → Int → Int → ByteArray → Int → Int → Int → Int → List (S89) → Int → Int → List Int → Int → Bool → Int → Int → List (S159) → List (S103) → List Int → Option (Int)
  | 0, _, _, _, _, _, _, _, _, _, _, _, _, _, _, _, _, _, _, _, _ => none
  | k + 1, x1, x7, x269000, x269001, x269002, x269003, x269004, x269005, x269006, x269007, x269008, x269009, x269010, x269011, x269012, x269013, x269014, x269015, x269016, x269017 => if x7 < (x269007.length : Int) then (if 0 ≤ x7 then (if ((rd_T89 x269007 x7).f2) = x1 then (some 43) else (spec_l29Cell.l1 k x1 (wrap64 (x7 + 1)) x269000 x269001 x269002 x269003 x269004 x269005 x269006 x269007 x269008 x269009 x269010 x269011 x269012 x269013 x269014 x269015 x269016 x269017)) else (none)) else (if x269012 = true then ((spec_l03Has.f k x269017 x1).bind fun t274 => (spec_l29Cell.j2 k x1 t274 x269000 x269001 x269002 x269003 x269004 x269005 x269006 x269007 x269008 x269009 x269010 x269011 x269012 x269013 x269014 x269015 x269016 x269017)) else (spec_l29Cell.j2 k x1 false x269000 x269001 x269002 x269003 x269004 x269005 x269006 x269007 x269008 x269009 x269010 x269011 x269012 x269013 x269014 x269015 x269016 x269017))
def spec_l29Cell.j2 : Nat → Int → Bool → Int → Int → ByteArray → Int → Int → Int → Int → List (S89) → Int → Int → List Int → Int → Bool → Int → Int → List (S159) → List (S103) → List Int → Option (Int)
  | 0, _, _, _, _, _, _, _, _, _, _, _, _, _, _, _, _, _, _, _, _ => none
  | k + 1, x1, x62, x269000, x269001, x269002, x269003, x269004, x269005, x269006, x269007, x269008, x269009, x269010, x269011, x269012, x269013, x269014, x269015, x269016, x269017 => if x62 = true then (some 42) else ((spec_ParkAt.f k x269000 x269001 x269002 x1).bind fun t275 => (if t275 = true then (some 95) else (some 46)))
end
def spec_l29Cell.f (k : Nat) (a0_0 : Int) (a0_1 : Int) (a0_2 : ByteArray) (a0_3 : Int) (a0_4 : Int) (a0_5 : Int) (a0_6 : Int) (l0_7 : List (S89)) (a0_8 : Int) (a0_9 : Int) (l0_10 : List Int) (a0_11 : Int) (a0_12 : Bool) (a0_13 : Int) (a0_14 : Int) (l0_15 : List (S159)) (l0_16 : List (S103)) (l0_17 : List Int) (a1 : Int) : Option (Int) := (spec_FreeAt.f k a0_0 a0_1 a0_2 a1).bind fun t269 => (if t269 = true then (spec_l29Cell.l0 k a1 0 a0_0 a0_1 a0_2 a0_3 a0_4 a0_5 a0_6 l0_7 a0_8 a0_9 l0_10 a0_11 a0_12 a0_13 a0_14 l0_15 l0_16 l0_17) else (some 35))
set_option maxHeartbeats 8000000 in
set_option maxRecDepth 100000 in
theorem spec_l29Cell.calls (k : Nat) (a0_0 : Int) (a0_1 : Int) (a0_2 : ByteArray) (a0_3 : Int) (a0_4 : Int) (a0_5 : Int) (a0_6 : Int) (A0_7 : Option Addr) (c0_7 : Nat) (l0_7 : List (S89)) (a0_8 : Int) (a0_9 : Int) (A0_10 : Option Addr) (c0_10 : Nat) (l0_10 : List Int) (a0_11 : Int) (a0_12 : Bool) (a0_13 : Int) (a0_14 : Int) (A0_15 : Option Addr) (c0_15 : Nat) (l0_15 : List (S159)) (A0_16 : Option Addr) (c0_16 : Nat) (l0_16 : List (S103)) (A0_17 : Option Addr) (c0_17 : Nat) (l0_17 : List Int) (a1 : Int) (r : Int) (w : World) (hr0_7 : Kd.C k89 w A0_7 l0_7.length l0_7) (hc0_7 : l0_7.length ≤ c0_7) (hr0_10 : Kd.C (Kd.int .i64) w A0_10 l0_10.length l0_10) (hc0_10 : l0_10.length ≤ c0_10) (hr0_15 : Kd.C k159 w A0_15 l0_15.length l0_15) (hc0_15 : l0_15.length ≤ c0_15) (hr0_16 : Kd.C k103 w A0_16 l0_16.length l0_16) (hc0_16 : l0_16.length ≤ c0_16) (hr0_17 : Kd.C (Kd.int .i64) w A0_17 l0_17.length l0_17) (hc0_17 : l0_17.length ≤ c0_17) (h : spec_l29Cell.f k a0_0 a0_1 a0_2 a0_3 a0_4 a0_5 a0_6 l0_7 a0_8 a0_9 l0_10 a0_11 a0_12 a0_13 a0_14 l0_15 l0_16 l0_17 a1 = some r) :
    Calls Try.prog 102 #[.agg #[.int .i64 a0_0, .int .i64 a0_1, .string a0_2, .int .i64 a0_3, .int .i64 a0_4, .int .i64 a0_5, .int .i64 a0_6, .slice A0_7 l0_7.length c0_7, .int .i64 a0_8, .int .i64 a0_9, .slice A0_10 l0_10.length c0_10, .int .i64 a0_11, .bool a0_12, .int .i64 a0_13, .int .i64 a0_14, .slice A0_15 l0_15.length c0_15, .slice A0_16 l0_16.length c0_16, .slice A0_17 l0_17.length c0_17], .int .i64 a1] w fun e w' => e = .returned (.int .u8 r) ∧ Below w.heap.size w w' := by
  have hu48 := Try.underlying48
  have hu38 := Try.underlying38
  have HR0_7 := Aside0.mk hr0_7
  have HC0_7 := Aside0.mk hc0_7
  clear hr0_7 hc0_7
  have HR0_10 := Aside0.mk hr0_10
  have HC0_10 := Aside0.mk hc0_10
  clear hr0_10 hc0_10
  have HR0_15 := Aside0.mk hr0_15
  have HC0_15 := Aside0.mk hc0_15
  clear hr0_15 hc0_15
  have HR0_16 := Aside0.mk hr0_16
  have HC0_16 := Aside0.mk hc0_16
  clear hr0_16 hc0_16
  have HR0_17 := Aside0.mk hr0_17
  have HC0_17 := Aside0.mk hc0_17
  clear hr0_17 hc0_17
  have HB := Aside0.mk (Below.refl w.heap.size w)
  have H : ((spec_FreeAt.f k a0_0 a0_1 a0_2 a1).bind fun t269 => (if t269 = true then (spec_l29Cell.l0 k a1 0 a0_0 a0_1 a0_2 a0_3 a0_4 a0_5 a0_6 l0_7 a0_8 a0_9 l0_10 a0_11 a0_12 a0_13 a0_14 l0_15 l0_16 l0_17) else (some 35))) = some r := h
  clear h
  replace H := Option.bind_eq_some_iff.mp H
  obtain ⟨t269, A30, H⟩ := H
  replace H : (if t269 = true then (spec_l29Cell.l0 k a1 0 a0_0 a0_1 a0_2 a0_3 a0_4 a0_5 a0_6 l0_7 a0_8 a0_9 l0_10 a0_11 a0_12 a0_13 a0_14 l0_15 l0_16 l0_17) else (some 35)) = some r := H
  have A3 := Aside0.mk A30
  clear A30
  by_cases c4 : t269 = true
  rotate_left
  · replace c4 := Bool.eq_false_iff.mpr c4
    subst c4
    have H1 : (some 35) = some r := by rw [if_neg (show ¬ (false = true) by decide)] at H; exact H
    clear H
    have H := H1
    clear H1
    obtain rfl := Option.some.inj H
    go_enter Try.func102, Try.ntmps102
    go_wp2_with (first | ((with_reducible refine gate_dst (N := 2) rfl ?_); refine box_event ?hg (N := 2) ?hd (cs := #[.int .i64 a0_0, .int .i64 a0_1, .string a0_2, .int .i64 a0_3, .int .i64 a0_4, .int .i64 a0_5, .int .i64 a0_6, .slice A0_7 l0_7.length c0_7, .int .i64 a0_8, .int .i64 a0_9, .slice A0_10 l0_10.length c0_10, .int .i64 a0_11, .bool a0_12, .int .i64 a0_13, .int .i64 a0_14, .slice A0_15 l0_15.length c0_15, .slice A0_16 l0_16.length c0_16, .slice A0_17 l0_17.length c0_17]) (t := 48) ?hr ?_; (case hd => rfl); (case hg => rfl); (case hr => first | (go_simp; done) | (go_simp; rfl)); intro gb268 hg w33 hbox hb; have n0_ := Aside0.mk (below_step (by repeat (first | (with_reducible first | exact HB.out | apply below_alloc | apply pw_below_drewN | apply below_drew1) | exact HB.out)) hb); have n1_ := Aside0.mk (hbox); have n2_ := Aside0.mk ((by rw [hg]; exact (below_size (by repeat (first | (with_reducible first | exact HB.out | apply below_alloc | apply pw_below_drewN | apply below_drew1) | exact HB.out))) : w.heap.size ≤ gb268)); have n3_ := n2_; clear HB; have HB := n0_; have BK268 := n1_; have GW268 := n2_; have GE268 := n3_; clear n0_ n1_ n2_ n3_; clear hb hbox hg; have hcz34_0 : w33.cell? ⟨gb268, 0, none⟩ = some (.int .i64 a0_0) := (blk_cell BK268.out 0).trans rfl; have hcz34_1 : w33.cell? ⟨gb268, 1, none⟩ = some (.int .i64 a0_1) := (blk_cell BK268.out 1).trans rfl; have hcz34_2 : w33.cell? ⟨gb268, 2, none⟩ = some (.string a0_2) := (blk_cell BK268.out 2).trans rfl; have hcz34_7 : w33.cell? ⟨gb268, 7, none⟩ = some (.slice A0_7 l0_7.length c0_7) := (blk_cell BK268.out 7).trans rfl; have hcz34_12 : w33.cell? ⟨gb268, 12, none⟩ = some (.bool a0_12) := (blk_cell BK268.out 12).trans rfl; have hcz34_17 : w33.cell? ⟨gb268, 17, none⟩ = some (.slice A0_17 l0_17.length c0_17) := (blk_cell BK268.out 17).trans rfl) | ((with_reducible refine gate_callee (f := 96) rfl ?_); refine goesL_ (some 12) rfl rfl Try.func96 (by kernel_rfl) rfl #[.agg #[.int .i64 a0_0, .int .i64 a0_1, .string a0_2], .int .i64 a1] rfl (by (try simp only [List.map_toArray, List.map_cons, List.map_nil]); first | done | rfl | (simp only [List.length_drop, List.length_take]; rfl)) ?_; (with_reducible refine (spec_FreeAt.calls k a0_0 a0_1 a0_2 a1 false _ A3.out).mono ?_); rintro e w35 ⟨rfl, hb⟩; refine ⟨_, rfl, ?_⟩; have n0_ := Aside0.mk (blk_below (g := gb268) (by (with_reducible repeat (first | refine blk_drewN ?_ _ | refine blk_drew ?_ | refine blk_alloc ?_ _)); exact BK268.out) hb); have n1_ := Aside0.mk (below_step (by repeat (first | (with_reducible first | exact HB.out | apply below_alloc | apply pw_below_drewN | apply below_drew1 | refine below_set ?_ GE268.out) | exact HB.out)) hb); clear BK268; clear HB; have BK268 := n0_; have HB := n1_; clear n0_ n1_; (try clear hb); (try clear hb2); (try clear hk); (try clear hi)))
    go_ret
    exact ⟨by first | rfl | (simp [errW_none, errW_some] <;> rfl) | (simp [*, errW_none, errW_some] <;> rfl), by repeat (first | (with_reducible first | exact HB.out | apply below_alloc | apply pw_below_drewN | apply below_drew1 | refine below_set ?_ GE268.out) | exact HB.out)⟩
  subst c4
  have H1 : (spec_l29Cell.l0 k a1 0 a0_0 a0_1 a0_2 a0_3 a0_4 a0_5 a0_6 l0_7 a0_8 a0_9 l0_10 a0_11 a0_12 a0_13 a0_14 l0_15 l0_16 l0_17) = some r := by rw [if_pos rfl] at H; exact H
  clear H
  have H := H1
  clear H1
  have H' := Aside0.mk H
  clear H
  go_enter Try.func102, Try.ntmps102
  go_wp2_with (first | ((with_reducible refine gate_dst (N := 2) rfl ?_); refine box_event ?hg (N := 2) ?hd (cs := #[.int .i64 a0_0, .int .i64 a0_1, .string a0_2, .int .i64 a0_3, .int .i64 a0_4, .int .i64 a0_5, .int .i64 a0_6, .slice A0_7 l0_7.length c0_7, .int .i64 a0_8, .int .i64 a0_9, .slice A0_10 l0_10.length c0_10, .int .i64 a0_11, .bool a0_12, .int .i64 a0_13, .int .i64 a0_14, .slice A0_15 l0_15.length c0_15, .slice A0_16 l0_16.length c0_16, .slice A0_17 l0_17.length c0_17]) (t := 48) ?hr ?_; (case hd => rfl); (case hg => rfl); (case hr => first | (go_simp; done) | (go_simp; rfl)); intro gb268 hg w5 hbox hb; have n0_ := Aside0.mk (below_step (by repeat (first | (with_reducible first | exact HB.out | apply below_alloc | apply pw_below_drewN | apply below_drew1) | exact HB.out)) hb); have n1_ := Aside0.mk (hbox); have n2_ := Aside0.mk ((by rw [hg]; exact (below_size (by repeat (first | (with_reducible first | exact HB.out | apply below_alloc | apply pw_below_drewN | apply below_drew1) | exact HB.out))) : w.heap.size ≤ gb268)); have n3_ := n2_; clear HB; have HB := n0_; have BK268 := n1_; have GW268 := n2_; have GE268 := n3_; clear n0_ n1_ n2_ n3_; clear hb hbox hg; have hcz6_0 : w5.cell? ⟨gb268, 0, none⟩ = some (.int .i64 a0_0) := (blk_cell BK268.out 0).trans rfl; have hcz6_1 : w5.cell? ⟨gb268, 1, none⟩ = some (.int .i64 a0_1) := (blk_cell BK268.out 1).trans rfl; have hcz6_2 : w5.cell? ⟨gb268, 2, none⟩ = some (.string a0_2) := (blk_cell BK268.out 2).trans rfl; have hcz6_7 : w5.cell? ⟨gb268, 7, none⟩ = some (.slice A0_7 l0_7.length c0_7) := (blk_cell BK268.out 7).trans rfl; have hcz6_12 : w5.cell? ⟨gb268, 12, none⟩ = some (.bool a0_12) := (blk_cell BK268.out 12).trans rfl; have hcz6_17 : w5.cell? ⟨gb268, 17, none⟩ = some (.slice A0_17 l0_17.length c0_17) := (blk_cell BK268.out 17).trans rfl) | ((with_reducible refine gate_callee (f := 96) rfl ?_); refine goesL_ (some 12) rfl rfl Try.func96 (by kernel_rfl) rfl #[.agg #[.int .i64 a0_0, .int .i64 a0_1, .string a0_2], .int .i64 a1] rfl (by (try simp only [List.map_toArray, List.map_cons, List.map_nil]); first | done | rfl | (simp only [List.length_drop, List.length_take]; rfl)) ?_; (with_reducible refine (spec_FreeAt.calls k a0_0 a0_1 a0_2 a1 true _ A3.out).mono ?_); rintro e w7 ⟨rfl, hb⟩; refine ⟨_, rfl, ?_⟩; have n0_ := Aside0.mk (blk_below (g := gb268) (by (with_reducible repeat (first | refine blk_drewN ?_ _ | refine blk_drew ?_ | refine blk_alloc ?_ _)); exact BK268.out) hb); have n1_ := Aside0.mk (below_step (by repeat (first | (with_reducible first | exact HB.out | apply below_alloc | apply pw_below_drewN | apply below_drew1 | refine below_set ?_ GE268.out) | exact HB.out)) hb); clear BK268; clear HB; have BK268 := n0_; have HB := n1_; clear n0_ n1_; (try clear hb); (try clear hb2); (try clear hk); (try clear hi)))
  go_loopg [5] k (fun kq v5 w' => ∃ (x5_1 : Int), v5 = .int .i64 x5_1 ∧ Aside0 (spec_l29Cell.l0 kq a1 x5_1 a0_0 a0_1 a0_2 a0_3 a0_4 a0_5 a0_6 l0_7 a0_8 a0_9 l0_10 a0_11 a0_12 a0_13 a0_14 l0_15 l0_16 l0_17 = some r) ∧ Aside0 (kq ≤ k) ∧ Aside0 (w'.heap[gb268]? = some (.cells #[.int .i64 a0_0, .int .i64 a0_1, .string a0_2, .int .i64 a0_3, .int .i64 a0_4, .int .i64 a0_5, .int .i64 a0_6, (.slice A0_7 l0_7.length c0_7), .int .i64 a0_8, .int .i64 a0_9, (.slice A0_10 l0_10.length c0_10), .int .i64 a0_11, .bool a0_12, .int .i64 a0_13, .int .i64 a0_14, (.slice A0_15 l0_15.length c0_15), (.slice A0_16 l0_16.length c0_16), (.slice A0_17 l0_17.length c0_17)] 48 (0, 0))) ∧ Aside0 (Below w.heap.size w w'))
  case atStart => exact ⟨(0), (by first | rfl | (simp; done) | (simp [*]; done)), H', ⟨Nat.le_refl _⟩, ⟨by (with_reducible repeat (first | refine blk_drewN ?_ _ | refine blk_drew ?_ | refine blk_alloc ?_ _)); exact BK268.out⟩, ⟨by repeat (first | (with_reducible first | exact HB.out | apply below_alloc | apply pw_below_drewN | apply below_drew1 | refine below_set ?_ GE268.out) | exact HB.out)⟩⟩
  case round =>
    clear H'
    try clear c1
    try clear p2
    try clear c4
    try clear hcz6_0
    try clear hcz6_1
    try clear hcz6_12
    try clear hcz6_17
    try clear hcz6_2
    try clear hcz6_7
    obtain ⟨x5_1, rfl, HA, HK1, BK268, HB⟩ := hrel
    cases gk with
    | zero => exact absurd HA.out (by simp [spec_l29Cell.l0])
    | succ k1 =>
      have H := HA.out
      clear HA
      simp only [spec_l29Cell.l0] at H
      by_cases c8 : x5_1 < (l0_7.length : Int)
      · rw [if_pos c8] at H
        have c8b0 : decide (x5_1 < (l0_7.length : Int)) = true := decide_eq_true c8
        clear c8
        by_cases c9 : 0 ≤ x5_1
        rotate_left
        · rw [if_neg c9] at H
          exact absurd H (by simp)
        rw [if_pos c9] at H
        have c9b0 : decide (0 ≤ x5_1) = true := decide_eq_true c9
        clear c9
        by_cases c10 : ((rd_T89 l0_7 x5_1).f1) = a1
        rotate_left
        · rw [if_neg c10] at H
          have c10b0 : (((rd_T89 l0_7 x5_1).f1) == a1) = false := beq_eq_false_iff_ne.mpr c10
          have c10b1 : (((rd_T89 l0_7 x5_1).f1) != a1) = true := bne_iff_ne.mpr c10
          have H' := Aside0.mk H
          clear H
          have hcz13_0 : wr.cell? ⟨gb268, 0, none⟩ = some (.int .i64 a0_0) := (blk_cell BK268.out 0).trans rfl
          have hcz13_1 : wr.cell? ⟨gb268, 1, none⟩ = some (.int .i64 a0_1) := (blk_cell BK268.out 1).trans rfl
          have hcz13_2 : wr.cell? ⟨gb268, 2, none⟩ = some (.string a0_2) := (blk_cell BK268.out 2).trans rfl
          have hcz13_7 : wr.cell? ⟨gb268, 7, none⟩ = some (.slice A0_7 l0_7.length c0_7) := (blk_cell BK268.out 7).trans rfl
          have hcz13_12 : wr.cell? ⟨gb268, 12, none⟩ = some (.bool a0_12) := (blk_cell BK268.out 12).trans rfl
          have hcz13_17 : wr.cell? ⟨gb268, 17, none⟩ = some (.slice A0_17 l0_17.length c0_17) := (blk_cell BK268.out 17).trans rfl
          have p270 : 0 ≤ (x5_1 : Int) := of_decide_eq_true (by first | (with_reducible assumption) | assumption)
          have q270 : x5_1 < (l0_7.length : Int) := of_decide_eq_true (by first | (with_reducible assumption) | assumption)
          obtain ⟨ad270, e270, hx270_0, hx270_1, hx270_2, hx270_3⟩ := at_T89 HR0_7.out x5_1 p270 q270
          cases e270
          replace hx270_0 := (HB.out.cell (World.block_lt_of_cell? w _ hx270_0)).trans hx270_0
          replace hx270_1 := (HB.out.cell (World.block_lt_of_cell? w _ hx270_1)).trans hx270_1
          replace hx270_2 := (HB.out.cell (World.block_lt_of_cell? w _ hx270_2)).trans hx270_2
          replace hx270_3 := (HB.out.cell (World.block_lt_of_cell? w _ hx270_3)).trans hx270_3
          replace p270 := eq_true p270
          replace q270 := eq_true q270
          go_wp2
          go_roundg k1
          case measure => have := HK1.out; omega
          case rel => exact ⟨(wrap64 (x5_1 + 1)), (by first | rfl | (simp; done) | (simp [*]; done)), H', ⟨by have := HK1.out; omega⟩, ⟨by (with_reducible repeat (first | refine blk_drewN ?_ _ | refine blk_drew ?_ | refine blk_alloc ?_ _)); exact BK268.out⟩, ⟨by repeat (first | (with_reducible first | exact HB.out | apply below_alloc | apply pw_below_drewN | apply below_drew1 | refine below_set ?_ GE268.out) | exact HB.out)⟩⟩
        rw [if_pos c10] at H
        have c10b0 : (((rd_T89 l0_7 x5_1).f1) == a1) = true := beq_iff_eq.mpr c10
        have c10b1 : (((rd_T89 l0_7 x5_1).f1) != a1) = false := bne_eq_false_iff_eq.mpr c10
        clear c10
        replace H := Option.bind_eq_some_iff.mp H
        obtain ⟨t272, A110, H⟩ := H
        replace H : (some ((wrap64 (48 + t272)) % 256)) = some r := H
        have A11 := Aside0.mk A110
        clear A110
        obtain rfl := Option.some.inj H
        have hcz12_0 : wr.cell? ⟨gb268, 0, none⟩ = some (.int .i64 a0_0) := (blk_cell BK268.out 0).trans rfl
        have hcz12_1 : wr.cell? ⟨gb268, 1, none⟩ = some (.int .i64 a0_1) := (blk_cell BK268.out 1).trans rfl
        have hcz12_2 : wr.cell? ⟨gb268, 2, none⟩ = some (.string a0_2) := (blk_cell BK268.out 2).trans rfl
        have hcz12_7 : wr.cell? ⟨gb268, 7, none⟩ = some (.slice A0_7 l0_7.length c0_7) := (blk_cell BK268.out 7).trans rfl
        have hcz12_12 : wr.cell? ⟨gb268, 12, none⟩ = some (.bool a0_12) := (blk_cell BK268.out 12).trans rfl
        have hcz12_17 : wr.cell? ⟨gb268, 17, none⟩ = some (.slice A0_17 l0_17.length c0_17) := (blk_cell BK268.out 17).trans rfl
        have p270 : 0 ≤ (x5_1 : Int) := of_decide_eq_true (by first | (with_reducible assumption) | assumption)
        have q270 : x5_1 < (l0_7.length : Int) := of_decide_eq_true (by first | (with_reducible assumption) | assumption)
        obtain ⟨ad270, e270, hx270_0, hx270_1, hx270_2, hx270_3⟩ := at_T89 HR0_7.out x5_1 p270 q270
        cases e270
        replace hx270_0 := (HB.out.cell (World.block_lt_of_cell? w _ hx270_0)).trans hx270_0
        replace hx270_1 := (HB.out.cell (World.block_lt_of_cell? w _ hx270_1)).trans hx270_1
        replace hx270_2 := (HB.out.cell (World.block_lt_of_cell? w _ hx270_2)).trans hx270_2
        replace hx270_3 := (HB.out.cell (World.block_lt_of_cell? w _ hx270_3)).trans hx270_3
        replace p270 := eq_true p270
        replace q270 := eq_true q270
        have p271 : 0 ≤ (x5_1 : Int) := of_decide_eq_true (by first | (with_reducible assumption) | assumption)
        have q271 : x5_1 < (l0_7.length : Int) := of_decide_eq_true (by first | (with_reducible assumption) | assumption)
        obtain ⟨ad271, e271, hx271_0, hx271_1, hx271_2, hx271_3⟩ := at_T89 HR0_7.out x5_1 p271 q271
        obtain rfl : ad270 = ad271 := (by injection e271)
        replace hx271_0 := (HB.out.cell (World.block_lt_of_cell? w _ hx271_0)).trans hx271_0
        replace hx271_1 := (HB.out.cell (World.block_lt_of_cell? w _ hx271_1)).trans hx271_1
        replace hx271_2 := (HB.out.cell (World.block_lt_of_cell? w _ hx271_2)).trans hx271_2
        replace hx271_3 := (HB.out.cell (World.block_lt_of_cell? w _ hx271_3)).trans hx271_3
        replace p271 := eq_true p271
        replace q271 := eq_true q271
        go_wp2_with (first | ((with_reducible refine gate_callee (f := 134) rfl ?_); refine goesL_ (some 37) rfl rfl Try.func134 (by kernel_rfl) rfl #[.int .i64 (Int.tmod ((rd_T89 l0_7 x5_1).f0) 10)] rfl (by (try simp only [List.map_toArray, List.map_cons, List.map_nil]); first | done | rfl | (simp only [List.length_drop, List.length_take]; rfl)) ?_; (with_reducible refine (spec_l29Sized.calls (Int.tmod ((rd_T89 l0_7 x5_1).f0) 10) t272 _ A11.out).mono ?_); rintro e w' ⟨rfl, ⟨nd, rfl⟩⟩; refine ⟨_, rfl, ?_⟩))
        go_ret
        exact ⟨by first | rfl | (simp [errW_none, errW_some] <;> rfl) | (simp [*, errW_none, errW_some] <;> rfl), by repeat (first | (with_reducible first | exact HB.out | apply below_alloc | apply pw_below_drewN | apply below_drew1 | refine below_set ?_ GE268.out) | exact HB.out)⟩
      rw [if_neg c8] at H
      have c8b0 : decide (x5_1 < (l0_7.length : Int)) = false := decide_eq_false c8
      clear c8
      have H' := Aside0.mk H
      clear H
      have hcz14_0 : wr.cell? ⟨gb268, 0, none⟩ = some (.int .i64 a0_0) := (blk_cell BK268.out 0).trans rfl
      have hcz14_1 : wr.cell? ⟨gb268, 1, none⟩ = some (.int .i64 a0_1) := (blk_cell BK268.out 1).trans rfl
      have hcz14_2 : wr.cell? ⟨gb268, 2, none⟩ = some (.string a0_2) := (blk_cell BK268.out 2).trans rfl
      have hcz14_7 : wr.cell? ⟨gb268, 7, none⟩ = some (.slice A0_7 l0_7.length c0_7) := (blk_cell BK268.out 7).trans rfl
      have hcz14_12 : wr.cell? ⟨gb268, 12, none⟩ = some (.bool a0_12) := (blk_cell BK268.out 12).trans rfl
      have hcz14_17 : wr.cell? ⟨gb268, 17, none⟩ = some (.slice A0_17 l0_17.length c0_17) := (blk_cell BK268.out 17).trans rfl
      go_wp2
      go_loopg [7] k1 (fun kq v7 w' => ∃ (x7_2 : Int), v7 = .int .i64 x7_2 ∧ Aside0 (spec_l29Cell.l1 kq a1 x7_2 a0_0 a0_1 a0_2 a0_3 a0_4 a0_5 a0_6 l0_7 a0_8 a0_9 l0_10 a0_11 a0_12 a0_13 a0_14 l0_15 l0_16 l0_17 = some r) ∧ Aside0 (kq ≤ k1) ∧ Aside0 (w'.heap[gb268]? = some (.cells #[.int .i64 a0_0, .int .i64 a0_1, .string a0_2, .int .i64 a0_3, .int .i64 a0_4, .int .i64 a0_5, .int .i64 a0_6, (.slice A0_7 l0_7.length c0_7), .int .i64 a0_8, .int .i64 a0_9, (.slice A0_10 l0_10.length c0_10), .int .i64 a0_11, .bool a0_12, .int .i64 a0_13, .int .i64 a0_14, (.slice A0_15 l0_15.length c0_15), (.slice A0_16 l0_16.length c0_16), (.slice A0_17 l0_17.length c0_17)] 48 (0, 0))) ∧ Aside0 (Below w.heap.size w w'))
      case atStart => exact ⟨(0), (by first | rfl | (simp; done) | (simp [*]; done)), H', ⟨Nat.le_refl _⟩, ⟨by (with_reducible repeat (first | refine blk_drewN ?_ _ | refine blk_drew ?_ | refine blk_alloc ?_ _)); exact BK268.out⟩, ⟨by repeat (first | (with_reducible first | exact HB.out | apply below_alloc | apply pw_below_drewN | apply below_drew1 | refine below_set ?_ GE268.out) | exact HB.out)⟩⟩
      case round =>
        clear H'
        try clear c1
        try clear p2
        try clear q2
        try clear hx2
        try clear c4
        try clear p6
        try clear c8
        try clear c8b0
        try clear c9
        try clear c9b0
        try clear c10
        try clear c10b0
        try clear c10b1
        try clear c13
        try clear hcz12_0
        try clear hcz12_1
        try clear hcz12_12
        try clear hcz12_17
        try clear hcz12_2
        try clear hcz12_7
        try clear hcz13_0
        try clear hcz13_1
        try clear hcz13_12
        try clear hcz13_17
        try clear hcz13_2
        try clear hcz13_7
        try clear hcz14_0
        try clear hcz14_1
        try clear hcz14_12
        try clear hcz14_17
        try clear hcz14_2
        try clear hcz14_7
        try clear hcz6_0
        try clear hcz6_1
        try clear hcz6_12
        try clear hcz6_17
        try clear hcz6_2
        try clear hcz6_7
        try clear hx270_0
        try clear hx270_1
        try clear hx270_2
        try clear hx270_3
        try clear hx271_0
        try clear hx271_1
        try clear hx271_2
        try clear hx271_3
        try clear p2
        try clear p270
        try clear p271
        try clear q270
        try clear q271
        obtain ⟨x7_2, rfl, HA, HK2, BK268, HB⟩ := hrel
        cases gk with
        | zero => exact absurd HA.out (by simp [spec_l29Cell.l1])
        | succ k2 =>
          have H := HA.out
          clear HA
          simp only [spec_l29Cell.l1] at H
          by_cases c15 : x7_2 < (l0_7.length : Int)
          · rw [if_pos c15] at H
            have c15b0 : decide (x7_2 < (l0_7.length : Int)) = true := decide_eq_true c15
            clear c15
            by_cases c16 : 0 ≤ x7_2
            rotate_left
            · rw [if_neg c16] at H
              exact absurd H (by simp)
            rw [if_pos c16] at H
            have c16b0 : decide (0 ≤ x7_2) = true := decide_eq_true c16
            clear c16
            by_cases c17 : ((rd_T89 l0_7 x7_2).f2) = a1
            · rw [if_pos c17] at H
              have c17b0 : (((rd_T89 l0_7 x7_2).f2) == a1) = true := beq_iff_eq.mpr c17
              have c17b1 : (((rd_T89 l0_7 x7_2).f2) != a1) = false := bne_eq_false_iff_eq.mpr c17
              clear c17
              obtain rfl := Option.some.inj H
              have hcz18_0 : wr.cell? ⟨gb268, 0, none⟩ = some (.int .i64 a0_0) := (blk_cell BK268.out 0).trans rfl
              have hcz18_1 : wr.cell? ⟨gb268, 1, none⟩ = some (.int .i64 a0_1) := (blk_cell BK268.out 1).trans rfl
              have hcz18_2 : wr.cell? ⟨gb268, 2, none⟩ = some (.string a0_2) := (blk_cell BK268.out 2).trans rfl
              have hcz18_7 : wr.cell? ⟨gb268, 7, none⟩ = some (.slice A0_7 l0_7.length c0_7) := (blk_cell BK268.out 7).trans rfl
              have hcz18_12 : wr.cell? ⟨gb268, 12, none⟩ = some (.bool a0_12) := (blk_cell BK268.out 12).trans rfl
              have hcz18_17 : wr.cell? ⟨gb268, 17, none⟩ = some (.slice A0_17 l0_17.length c0_17) := (blk_cell BK268.out 17).trans rfl
              have p273 : 0 ≤ (x7_2 : Int) := of_decide_eq_true (by first | (with_reducible assumption) | assumption)
              have q273 : x7_2 < (l0_7.length : Int) := of_decide_eq_true (by first | (with_reducible assumption) | assumption)
              obtain ⟨ad273, e273, hx273_0, hx273_1, hx273_2, hx273_3⟩ := at_T89 HR0_7.out x7_2 p273 q273
              cases e273
              replace hx273_0 := (HB.out.cell (World.block_lt_of_cell? w _ hx273_0)).trans hx273_0
              replace hx273_1 := (HB.out.cell (World.block_lt_of_cell? w _ hx273_1)).trans hx273_1
              replace hx273_2 := (HB.out.cell (World.block_lt_of_cell? w _ hx273_2)).trans hx273_2
              replace hx273_3 := (HB.out.cell (World.block_lt_of_cell? w _ hx273_3)).trans hx273_3
              replace p273 := eq_true p273
              replace q273 := eq_true q273
              go_wp2
              go_ret
              exact ⟨by first | rfl | (simp [errW_none, errW_some] <;> rfl) | (simp [*, errW_none, errW_some] <;> rfl), by repeat (first | (with_reducible first | exact HB.out | apply below_alloc | apply pw_below_drewN | apply below_drew1 | refine below_set ?_ GE268.out) | exact HB.out)⟩
            rw [if_neg c17] at H
            have c17b0 : (((rd_T89 l0_7 x7_2).f2) == a1) = false := beq_eq_false_iff_ne.mpr c17
            have c17b1 : (((rd_T89 l0_7 x7_2).f2) != a1) = true := bne_iff_ne.mpr c17
            have H' := Aside0.mk H
            clear H
            have hcz19_0 : wr.cell? ⟨gb268, 0, none⟩ = some (.int .i64 a0_0) := (blk_cell BK268.out 0).trans rfl
            have hcz19_1 : wr.cell? ⟨gb268, 1, none⟩ = some (.int .i64 a0_1) := (blk_cell BK268.out 1).trans rfl
            have hcz19_2 : wr.cell? ⟨gb268, 2, none⟩ = some (.string a0_2) := (blk_cell BK268.out 2).trans rfl
            have hcz19_7 : wr.cell? ⟨gb268, 7, none⟩ = some (.slice A0_7 l0_7.length c0_7) := (blk_cell BK268.out 7).trans rfl
            have hcz19_12 : wr.cell? ⟨gb268, 12, none⟩ = some (.bool a0_12) := (blk_cell BK268.out 12).trans rfl
            have hcz19_17 : wr.cell? ⟨gb268, 17, none⟩ = some (.slice A0_17 l0_17.length c0_17) := (blk_cell BK268.out 17).trans rfl
            have p273 : 0 ≤ (x7_2 : Int) := of_decide_eq_true (by first | (with_reducible assumption) | assumption)
            have q273 : x7_2 < (l0_7.length : Int) := of_decide_eq_true (by first | (with_reducible assumption) | assumption)
            obtain ⟨ad273, e273, hx273_0, hx273_1, hx273_2, hx273_3⟩ := at_T89 HR0_7.out x7_2 p273 q273
            cases e273
            replace hx273_0 := (HB.out.cell (World.block_lt_of_cell? w _ hx273_0)).trans hx273_0
            replace hx273_1 := (HB.out.cell (World.block_lt_of_cell? w _ hx273_1)).trans hx273_1
            replace hx273_2 := (HB.out.cell (World.block_lt_of_cell? w _ hx273_2)).trans hx273_2
            replace hx273_3 := (HB.out.cell (World.block_lt_of_cell? w _ hx273_3)).trans hx273_3
            replace p273 := eq_true p273
            replace q273 := eq_true q273
            go_wp2
            go_roundg k2
            case measure => have := HK1.out; have := HK2.out; omega
            case rel => exact ⟨(wrap64 (x7_2 + 1)), (by first | rfl | (simp; done) | (simp [*]; done)), H', ⟨by have := HK1.out; have := HK2.out; omega⟩, ⟨by (with_reducible repeat (first | refine blk_drewN ?_ _ | refine blk_drew ?_ | refine blk_alloc ?_ _)); exact BK268.out⟩, ⟨by repeat (first | (with_reducible first | exact HB.out | apply below_alloc | apply pw_below_drewN | apply below_drew1 | refine below_set ?_ GE268.out) | exact HB.out)⟩⟩
          rw [if_neg c15] at H
          have c15b0 : decide (x7_2 < (l0_7.length : Int)) = false := decide_eq_false c15
          clear c15
          have HC20 := Aside0.mk H
          clear H
          have hcz21_0 : wr.cell? ⟨gb268, 0, none⟩ = some (.int .i64 a0_0) := (blk_cell BK268.out 0).trans rfl
          have hcz21_1 : wr.cell? ⟨gb268, 1, none⟩ = some (.int .i64 a0_1) := (blk_cell BK268.out 1).trans rfl
          have hcz21_2 : wr.cell? ⟨gb268, 2, none⟩ = some (.string a0_2) := (blk_cell BK268.out 2).trans rfl
          have hcz21_7 : wr.cell? ⟨gb268, 7, none⟩ = some (.slice A0_7 l0_7.length c0_7) := (blk_cell BK268.out 7).trans rfl
          have hcz21_12 : wr.cell? ⟨gb268, 12, none⟩ = some (.bool a0_12) := (blk_cell BK268.out 12).trans rfl
          have hcz21_17 : wr.cell? ⟨gb268, 17, none⟩ = some (.slice A0_17 l0_17.length c0_17) := (blk_cell BK268.out 17).trans rfl
          go_upto_region 14 with (fail)
          go_cut [62] (fun v62 wc => ∃ (kq : Nat) (x62_19 : Bool), v62 = .bool x62_19 ∧ Aside0 (spec_l29Cell.j2 kq a1 x62_19 a0_0 a0_1 a0_2 a0_3 a0_4 a0_5 a0_6 l0_7 a0_8 a0_9 l0_10 a0_11 a0_12 a0_13 a0_14 l0_15 l0_16 l0_17 = some r) ∧ Aside0 (kq ≤ k2) ∧ Aside0 (wc.heap[gb268]? = some (.cells #[.int .i64 a0_0, .int .i64 a0_1, .string a0_2, .int .i64 a0_3, .int .i64 a0_4, .int .i64 a0_5, .int .i64 a0_6, (.slice A0_7 l0_7.length c0_7), .int .i64 a0_8, .int .i64 a0_9, (.slice A0_10 l0_10.length c0_10), .int .i64 a0_11, .bool a0_12, .int .i64 a0_13, .int .i64 a0_14, (.slice A0_15 l0_15.length c0_15), (.slice A0_16 l0_16.length c0_16), (.slice A0_17 l0_17.length c0_17)] 48 (0, 0))) ∧ Aside0 (Below w.heap.size w wc))
          case first =>
            have H := HC20.out
            clear HC20
            by_cases c22 : a0_12 = true
            rotate_left
            · replace c22 := Bool.eq_false_iff.mpr c22
              subst c22
              have H1 : (spec_l29Cell.j2 k2 a1 false a0_0 a0_1 a0_2 a0_3 a0_4 a0_5 a0_6 l0_7 a0_8 a0_9 l0_10 a0_11 false a0_13 a0_14 l0_15 l0_16 l0_17) = some r := by rw [if_neg (show ¬ (false = true) by decide)] at H; exact H
              clear H
              have H := H1
              clear H1
              have H' := Aside0.mk H
              clear H
              have hcz25_0 : wr.cell? ⟨gb268, 0, none⟩ = some (.int .i64 a0_0) := (blk_cell BK268.out 0).trans rfl
              have hcz25_1 : wr.cell? ⟨gb268, 1, none⟩ = some (.int .i64 a0_1) := (blk_cell BK268.out 1).trans rfl
              have hcz25_2 : wr.cell? ⟨gb268, 2, none⟩ = some (.string a0_2) := (blk_cell BK268.out 2).trans rfl
              have hcz25_7 : wr.cell? ⟨gb268, 7, none⟩ = some (.slice A0_7 l0_7.length c0_7) := (blk_cell BK268.out 7).trans rfl
              have hcz25_12 : wr.cell? ⟨gb268, 12, none⟩ = some (.bool false) := (blk_cell BK268.out 12).trans rfl
              have hcz25_17 : wr.cell? ⟨gb268, 17, none⟩ = some (.slice A0_17 l0_17.length c0_17) := (blk_cell BK268.out 17).trans rfl
              go_wp2
              go_meet
              case rel => exact ⟨_, (false), (by first | rfl | (simp; done) | (simp [*]; done)), H', ⟨by have := HK1.out; have := HK2.out; first | omega | exact Nat.le_refl _⟩, ⟨by (with_reducible repeat (first | refine blk_drewN ?_ _ | refine blk_drew ?_ | refine blk_alloc ?_ _)); exact BK268.out⟩, ⟨by repeat (first | (with_reducible first | exact HB.out | apply below_alloc | apply pw_below_drewN | apply below_drew1 | refine below_set ?_ GE268.out) | exact HB.out)⟩⟩
            subst c22
            have H1 : ((spec_l03Has.f k2 l0_17 a1).bind fun t274 => (spec_l29Cell.j2 k2 a1 t274 a0_0 a0_1 a0_2 a0_3 a0_4 a0_5 a0_6 l0_7 a0_8 a0_9 l0_10 a0_11 true a0_13 a0_14 l0_15 l0_16 l0_17)) = some r := by rw [if_pos rfl] at H; exact H
            clear H
            have H := H1
            clear H1
            replace H := Option.bind_eq_some_iff.mp H
            obtain ⟨t274, A230, H⟩ := H
            replace H : (spec_l29Cell.j2 k2 a1 t274 a0_0 a0_1 a0_2 a0_3 a0_4 a0_5 a0_6 l0_7 a0_8 a0_9 l0_10 a0_11 true a0_13 a0_14 l0_15 l0_16 l0_17) = some r := H
            have A23 := Aside0.mk A230
            clear A230
            have H' := Aside0.mk H
            clear H
            have hcz24_0 : wr.cell? ⟨gb268, 0, none⟩ = some (.int .i64 a0_0) := (blk_cell BK268.out 0).trans rfl
            have hcz24_1 : wr.cell? ⟨gb268, 1, none⟩ = some (.int .i64 a0_1) := (blk_cell BK268.out 1).trans rfl
            have hcz24_2 : wr.cell? ⟨gb268, 2, none⟩ = some (.string a0_2) := (blk_cell BK268.out 2).trans rfl
            have hcz24_7 : wr.cell? ⟨gb268, 7, none⟩ = some (.slice A0_7 l0_7.length c0_7) := (blk_cell BK268.out 7).trans rfl
            have hcz24_12 : wr.cell? ⟨gb268, 12, none⟩ = some (.bool true) := (blk_cell BK268.out 12).trans rfl
            have hcz24_17 : wr.cell? ⟨gb268, 17, none⟩ = some (.slice A0_17 l0_17.length c0_17) := (blk_cell BK268.out 17).trans rfl
            go_wp2_with (first | (go_at_call 135; (with_reducible refine (spec_l03Has.calls k2 _ _ l0_17 a1 t274 _ ?side1 ?side2 A23.out).mono ?_); (case side1 => repeat (first | exact (Kd.C_below HR0_17.out HB.out) | (with_reducible refine Kd.C_alloc ?_ _) | (with_reducible refine Kd.C_drewN ?_ _) | (with_reducible refine Kd.C_drew ?_))); (case side2 => exact HC0_17.out); rintro e w' ⟨rfl, ⟨nd, rfl⟩⟩))
            go_meet
            case rel => exact ⟨_, (t274), (by first | rfl | (simp; done) | (simp [*]; done)), H', ⟨by have := HK1.out; have := HK2.out; first | omega | exact Nat.le_refl _⟩, ⟨by (with_reducible repeat (first | refine blk_drewN ?_ _ | refine blk_drew ?_ | refine blk_alloc ?_ _)); exact BK268.out⟩, ⟨by repeat (first | (with_reducible first | exact HB.out | apply below_alloc | apply pw_below_drewN | apply below_drew1 | refine below_set ?_ GE268.out) | exact HB.out)⟩⟩
          case rest =>
            clear HC20
            try clear c1
            try clear c2
            try clear p2
            try clear q2
            try clear hx2
            try clear c4
            try clear p6
            try clear c8
            try clear c8b0
            try clear c9
            try clear c9b0
            try clear c10
            try clear c10b0
            try clear c10b1
            try clear c13
            try clear c15
            try clear c15b0
            try clear c16
            try clear c16b0
            try clear c17
            try clear c17b0
            try clear c17b1
            try clear c22
            try clear hcz12_0
            try clear hcz12_1
            try clear hcz12_12
            try clear hcz12_17
            try clear hcz12_2
            try clear hcz12_7
            try clear hcz13_0
            try clear hcz13_1
            try clear hcz13_12
            try clear hcz13_17
            try clear hcz13_2
            try clear hcz13_7
            try clear hcz14_0
            try clear hcz14_1
            try clear hcz14_12
            try clear hcz14_17
            try clear hcz14_2
            try clear hcz14_7
            try clear hcz18_0
            try clear hcz18_1
            try clear hcz18_12
            try clear hcz18_17
            try clear hcz18_2
            try clear hcz18_7
            try clear hcz19_0
            try clear hcz19_1
            try clear hcz19_12
            try clear hcz19_17
            try clear hcz19_2
            try clear hcz19_7
            try clear hcz21_0
            try clear hcz21_1
            try clear hcz21_12
            try clear hcz21_17
            try clear hcz21_2
            try clear hcz21_7
            try clear hcz24_0
            try clear hcz24_1
            try clear hcz24_12
            try clear hcz24_17
            try clear hcz24_2
            try clear hcz24_7
            try clear hcz25_0
            try clear hcz25_1
            try clear hcz25_12
            try clear hcz25_17
            try clear hcz25_2
            try clear hcz25_7
            try clear hcz6_0
            try clear hcz6_1
            try clear hcz6_12
            try clear hcz6_17
            try clear hcz6_2
            try clear hcz6_7
            try clear hx270_0
            try clear hx270_1
            try clear hx270_2
            try clear hx270_3
            try clear hx271_0
            try clear hx271_1
            try clear hx271_2
            try clear hx271_3
            try clear hx273_0
            try clear hx273_1
            try clear hx273_2
            try clear hx273_3
            try clear p2
            try clear p270
            try clear p271
            try clear p273
            try clear p6
            try clear q2
            try clear q270
            try clear q271
            try clear q273
            obtain ⟨kq, x62_19, rfl, HA, HJ19, BK268, HB⟩ := hcut
            cases kq with
            | zero => exact absurd HA.out (by simp [spec_l29Cell.j2])
            | succ kj19 =>
              have H := HA.out
              clear HA
              simp only [spec_l29Cell.j2] at H
              by_cases c26 : x62_19 = true
              · subst c26
                have H1 : (some 42) = some r := by rw [if_pos rfl] at H; exact H
                clear H
                have H := H1
                clear H1
                obtain rfl := Option.some.inj H
                go_wp2
                go_ret
                exact ⟨by first | rfl | (simp [errW_none, errW_some] <;> rfl) | (simp [*, errW_none, errW_some] <;> rfl), by repeat (first | (with_reducible first | exact HB.out | apply below_alloc | apply pw_below_drewN | apply below_drew1 | refine below_set ?_ GE268.out) | exact HB.out)⟩
              replace c26 := Bool.eq_false_iff.mpr c26
              subst c26
              have H1 : ((spec_ParkAt.f kj19 a0_0 a0_1 a0_2 a1).bind fun t275 => (if t275 = true then (some 95) else (some 46))) = some r := by rw [if_neg (show ¬ (false = true) by decide)] at H; exact H
              clear H
              have H := H1
              clear H1
              replace H := Option.bind_eq_some_iff.mp H
              obtain ⟨t275, A270, H⟩ := H
              replace H : (if t275 = true then (some 95) else (some 46)) = some r := H
              have A27 := Aside0.mk A270
              clear A270
              by_cases c28 : t275 = true
              · subst c28
                have H1 : (some 95) = some r := by rw [if_pos rfl] at H; exact H
                clear H
                have H := H1
                clear H1
                obtain rfl := Option.some.inj H
                have hcz29_0 : wc.cell? ⟨gb268, 0, none⟩ = some (.int .i64 a0_0) := (blk_cell BK268.out 0).trans rfl
                have hcz29_1 : wc.cell? ⟨gb268, 1, none⟩ = some (.int .i64 a0_1) := (blk_cell BK268.out 1).trans rfl
                have hcz29_2 : wc.cell? ⟨gb268, 2, none⟩ = some (.string a0_2) := (blk_cell BK268.out 2).trans rfl
                have hcz29_7 : wc.cell? ⟨gb268, 7, none⟩ = some (.slice A0_7 l0_7.length c0_7) := (blk_cell BK268.out 7).trans rfl
                have hcz29_12 : wc.cell? ⟨gb268, 12, none⟩ = some (.bool a0_12) := (blk_cell BK268.out 12).trans rfl
                have hcz29_17 : wc.cell? ⟨gb268, 17, none⟩ = some (.slice A0_17 l0_17.length c0_17) := (blk_cell BK268.out 17).trans rfl
                go_wp2_with (first | ((with_reducible refine gate_callee (f := 136) rfl ?_); refine goesL_ (some 67) rfl rfl Try.func136 (by kernel_rfl) rfl #[.agg #[.int .i64 a0_0, .int .i64 a0_1, .string a0_2], .int .i64 a1] rfl (by (try simp only [List.map_toArray, List.map_cons, List.map_nil]); first | done | rfl | (simp only [List.length_drop, List.length_take]; rfl)) ?_; (with_reducible refine (spec_ParkAt.calls kj19 a0_0 a0_1 a0_2 a1 true _ A27.out).mono ?_); rintro e w30 ⟨rfl, hb⟩; refine ⟨_, rfl, ?_⟩; have n0_ := Aside0.mk (blk_below (g := gb268) (by (with_reducible repeat (first | refine blk_drewN ?_ _ | refine blk_drew ?_ | refine blk_alloc ?_ _)); exact BK268.out) hb); have n1_ := Aside0.mk (below_step (by repeat (first | (with_reducible first | exact HB.out | apply below_alloc | apply pw_below_drewN | apply below_drew1 | refine below_set ?_ GE268.out) | exact HB.out)) hb); clear BK268; clear HB; have BK268 := n0_; have HB := n1_; clear n0_ n1_; (try clear hb); (try clear hb2); (try clear hk); (try clear hi)))
                go_ret
                exact ⟨by first | rfl | (simp [errW_none, errW_some] <;> rfl) | (simp [*, errW_none, errW_some] <;> rfl), by repeat (first | (with_reducible first | exact HB.out | apply below_alloc | apply pw_below_drewN | apply below_drew1 | refine below_set ?_ GE268.out) | exact HB.out)⟩
              replace c28 := Bool.eq_false_iff.mpr c28
              subst c28
              have H1 : (some 46) = some r := by rw [if_neg (show ¬ (false = true) by decide)] at H; exact H
              clear H
              have H := H1
              clear H1
              obtain rfl := Option.some.inj H
              have hcz31_0 : wc.cell? ⟨gb268, 0, none⟩ = some (.int .i64 a0_0) := (blk_cell BK268.out 0).trans rfl
              have hcz31_1 : wc.cell? ⟨gb268, 1, none⟩ = some (.int .i64 a0_1) := (blk_cell BK268.out 1).trans rfl
              have hcz31_2 : wc.cell? ⟨gb268, 2, none⟩ = some (.string a0_2) := (blk_cell BK268.out 2).trans rfl
              have hcz31_7 : wc.cell? ⟨gb268, 7, none⟩ = some (.slice A0_7 l0_7.length c0_7) := (blk_cell BK268.out 7).trans rfl
              have hcz31_12 : wc.cell? ⟨gb268, 12, none⟩ = some (.bool a0_12) := (blk_cell BK268.out 12).trans rfl
              have hcz31_17 : wc.cell? ⟨gb268, 17, none⟩ = some (.slice A0_17 l0_17.length c0_17) := (blk_cell BK268.out 17).trans rfl
              go_wp2_with (first | ((with_reducible refine gate_callee (f := 136) rfl ?_); refine goesL_ (some 67) rfl rfl Try.func136 (by kernel_rfl) rfl #[.agg #[.int .i64 a0_0, .int .i64 a0_1, .string a0_2], .int .i64 a1] rfl (by (try simp only [List.map_toArray, List.map_cons, List.map_nil]); first | done | rfl | (simp only [List.length_drop, List.length_take]; rfl)) ?_; (with_reducible refine (spec_ParkAt.calls kj19 a0_0 a0_1 a0_2 a1 false _ A27.out).mono ?_); rintro e w32 ⟨rfl, hb⟩; refine ⟨_, rfl, ?_⟩; have n0_ := Aside0.mk (blk_below (g := gb268) (by (with_reducible repeat (first | refine blk_drewN ?_ _ | refine blk_drew ?_ | refine blk_alloc ?_ _)); exact BK268.out) hb); have n1_ := Aside0.mk (below_step (by repeat (first | (with_reducible first | exact HB.out | apply below_alloc | apply pw_below_drewN | apply below_drew1 | refine below_set ?_ GE268.out) | exact HB.out)) hb); clear BK268; clear HB; have BK268 := n0_; have HB := n1_; clear n0_ n1_; (try clear hb); (try clear hb2); (try clear hk); (try clear hi)))
              go_ret
              exact ⟨by first | rfl | (simp [errW_none, errW_some] <;> rfl) | (simp [*, errW_none, errW_some] <;> rfl), by repeat (first | (with_reducible first | exact HB.out | apply below_alloc | apply pw_below_drewN | apply below_drew1 | refine below_set ?_ GE268.out) | exact HB.out)⟩

end Go.Proofs.Ytomchkdbhcakoaa.MFnExactMapText
