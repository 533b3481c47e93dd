/- Made by a program of this session (out of the kit's print, with hand-made contracts): what each Go function that the law reaches computes, and that the machine's call does so. -/
import Derived.Test.YtfinjkjnoobbjaaMFnTeamsx0
import Derived.Test.YtfinjkjnoobbjaaMFnTeamsx10
import Derived.Test.YtfinjkjnoobbjaaMFnTeamsx11
namespace Go.Proofs.Ytfinjkjnoobbjaa.MFnTeams
open Go.RowKit Go.Proofs.YtfinjkjnoobbjaaW.PrintWords Go.Proofs.YtfinjkjnoobbjaaW.PrintLast Go.Proofs.YtfinjkjnoobbjaaW.PrintMore
attribute [local go_sem] max2_int min2_int max_two min_two max_three min_three max_four min_four   -- for this text's walks alone
set_option linter.unusedVariables false
set_option linter.unusedSimpArgs false

/-! ### impl_HolderOf: function 41 -/
def impl_HolderOf.l0 : Nat → Int → List (S84) → Int → Int → Option (Int)
  | 0, _, _, _, _ => none
  | k + 1, x1, x7, x8, x9 => if x9 < x8 then (if 0 ≤ x9 then (if x9 < (x7.length : Int) then (if x1 ≥ 0 then ((impl_heldBy.f ((rd_T84 x7 x9).f0) ((rd_T84 x7 x9).f1) ((rd_T84 x7 x9).f2) ((rd_T84 x7 x9).f3)).bind fun t374 => ((slices_Contains_int_int.f k t374 x1).bind fun t377 => (if t377 = true then (some ((rd_T84 x7 x9).f0)) else (impl_HolderOf.l0 k x1 x7 x8 (wrap64 (x9 + 1)))))) else (impl_HolderOf.l0 k x1 x7 x8 (wrap64 (x9 + 1)))) else (none)) else (none)) else (some (-1))
def impl_HolderOf.f (k : Nat) (l0 : List (S84)) (a1 : Int) : Option (Int) := impl_HolderOf.l0 k a1 l0 (l0.length : Int) 0
theorem impl_HolderOf.mono_l : ∀ k, (∀ y0 y1 y2 y3, LeO (impl_HolderOf.l0 k y0 y1 y2 y3) (impl_HolderOf.l0 (k + 1) y0 y1 y2 y3))
  | 0 => fun _ _ _ _ r h => by simp [impl_HolderOf.l0] at h
  | k + 1 => by
    have ih0 := impl_HolderOf.mono_l k
    · intro y0 y1 y2 y3
      unfold impl_HolderOf.l0
      repeat' first
      | (with_reducible exact ih0 _ _ _ _)
      | (with_reducible exact slices_Contains_int_int.mono _ _ _)
      | (with_reducible exact LeO.refl _)
      | (with_reducible exact LeO.none _)
      | (with_reducible refine LeO.ite ?_ ?_)
      | (with_reducible refine LeO.bind ?_ (fun _ => ?_))
      | exact ih0 _ _ _ _
      | exact slices_Contains_int_int.mono _ _ _
      | exact LeO.none _
      | refine LeO.ite ?_ ?_
      | refine LeO.bind ?_ (fun _ => ?_)
theorem impl_HolderOf.mono : ∀ a0 a1 k, LeO (impl_HolderOf.f k a0 a1) (impl_HolderOf.f (k + 1) a0 a1) := by
  intro a0 a1 k
  have ih0 := impl_HolderOf.mono_l k
  unfold impl_HolderOf.f
  repeat' first
      | (with_reducible exact ih0 _ _ _ _)
      | (with_reducible exact slices_Contains_int_int.mono _ _ _)
      | (with_reducible exact LeO.refl _)
      | (with_reducible exact LeO.none _)
      | (with_reducible refine LeO.ite ?_ ?_)
      | (with_reducible refine LeO.bind ?_ (fun _ => ?_))
      | exact ih0 _ _ _ _
      | exact slices_Contains_int_int.mono _ _ _
      | exact LeO.none _
      | refine LeO.ite ?_ ?_
      | refine LeO.bind ?_ (fun _ => ?_)
set_option maxHeartbeats 8000000 in
set_option maxRecDepth 100000 in
theorem impl_HolderOf.calls (k : Nat) (A0 : Option Addr) (c0 : Nat) (l0 : List (S84)) (a1 : Int) (r : Int) (w : World) (hr0 : Kd.C k84 w A0 l0.length l0) (hc0 : l0.length ≤ c0) (h : impl_HolderOf.f k l0 a1 = some r) :
    Calls Try.prog 41 #[.slice A0 l0.length c0, .int .i64 a1] w fun e w' => e = .returned (.int .i64 r) ∧ Below w.heap.size w w' := by
  have hu84 := Try.underlying84
  have HR0 := Aside0.mk hr0
  have HC0 := Aside0.mk hc0
  clear hr0 hc0
  have HB := Aside0.mk (Below.refl w.heap.size w)
  have H : (impl_HolderOf.l0 k a1 l0 (l0.length : Int) 0) = some r := h
  clear h
  have H' := Aside0.mk H
  clear H
  go_enter Try.func41, Try.ntmps41
  go_wp2
  go_loopg [9] k (fun kq v9 w' => ∃ (x9_1 : Int), v9 = .int .i64 x9_1 ∧ Aside0 (impl_HolderOf.l0 kq a1 l0 (l0.length : Int) x9_1 = some r) ∧ Aside0 (kq ≤ k) ∧ Aside0 (Below w.heap.size w w'))
  case atStart => exact ⟨(0), (by first | rfl | (simp; done) | (simp [*]; done)), H', ⟨Nat.le_refl _⟩, ⟨by repeat (first | (with_reducible first | exact HB.out | apply wa | apply wN | apply wd) | exact HB.out)⟩⟩
  case round =>
    clear H'
    try clear p2
    obtain ⟨x9_1, rfl, HA, HK1, HB⟩ := hrel
    cases gk with
    | zero => exact absurd HA.out (by simp [impl_HolderOf.l0])
    | succ k1 =>
      have H := HA.out
      clear HA
      simp only [impl_HolderOf.l0] at H
      by_cases c3 : x9_1 < (l0.length : Int)
      rotate_left
      · rw [if_neg c3] at H
        have c3b0 : decide (x9_1 < (l0.length : Int)) = false := decide_eq_false c3
        clear c3
        obtain rfl := Option.some.inj H
        go_wp2
        go_ret
        exact ⟨by first | rfl | (simp [errW_none, errW_some] <;> rfl) | (simp [*, errW_none, errW_some] <;> rfl), by repeat (first | (with_reducible first | exact HB.out | apply wa | apply wN | apply wd) | exact HB.out)⟩
      rw [if_pos c3] at H
      have c3b0 : decide (x9_1 < (l0.length : Int)) = true := decide_eq_true c3
      clear c3
      by_cases c4 : 0 ≤ x9_1
      rotate_left
      · rw [if_neg c4] at H
        exact absurd H (by simp)
      rw [if_pos c4] at H
      have c4b0 : decide (0 ≤ x9_1) = true := decide_eq_true c4
      clear c4
      by_cases c5 : x9_1 < (l0.length : Int)
      rotate_left
      · rw [if_neg c5] at H
        exact absurd H (by simp)
      rw [if_pos c5] at H
      have c5b0 : decide (x9_1 < (l0.length : Int)) = true := decide_eq_true c5
      clear c5
      by_cases c6 : a1 ≥ 0
      rotate_left
      · rw [if_neg c6] at H
        have c6b0 : decide (0 ≤ a1) = false := decide_eq_false c6
        clear c6
        have H' := Aside0.mk H
        clear H
        have p372 : 0 ≤ (x9_1 : Int) := of_decide_eq_true (by first | (with_reducible assumption) | assumption)
        have q372 : x9_1 < (l0.length : Int) := of_decide_eq_true (by first | (with_reducible assumption) | assumption)
        obtain ⟨ad372, e372, hx372_0, hx372_1, hx372_2, hx372_3⟩ := at_T84 HR0.out x9_1 p372 q372
        cases e372
        replace hx372_0 := (HB.out.cell (World.block_lt_of_cell? w _ hx372_0)).trans hx372_0
        replace hx372_1 := (HB.out.cell (World.block_lt_of_cell? w _ hx372_1)).trans hx372_1
        replace hx372_2 := (HB.out.cell (World.block_lt_of_cell? w _ hx372_2)).trans hx372_2
        replace hx372_3 := (HB.out.cell (World.block_lt_of_cell? w _ hx372_3)).trans hx372_3
        replace p372 := eq_true p372
        replace q372 := eq_true q372
        go_wp2_with (first | ((with_reducible refine gate_dst (N := 6) rfl ?_); refine box_event ?hg (N := 6) ?hd (cs := #[.int .i64 0, .int .i64 0, .int .i64 0, .bool false]) (t := 84) ?hr ?_; (case hd => rfl); (case hg => rfl); (case hr => first | (go_simp; done) | (go_simp; rfl)); intro gb373 hg w19 hbox hb; have n0_ := Aside0.mk (below_step (by repeat (first | (with_reducible first | exact HB.out | apply wa | apply wN | apply wd) | exact HB.out)) hb); have n1_ := Aside0.mk (hbox); have n2_ := Aside0.mk ((by rw [hg]; exact (below_size (by repeat (first | (with_reducible first | exact HB.out | apply wa | apply wN | apply wd) | exact HB.out))) : w.heap.size ≤ gb373)); have n3_ := n2_; clear HB; have HB := n0_; have BK373 := n1_; have GW373 := n2_; have GE373 := n3_; clear n0_ n1_ n2_ n3_; clear hb hbox hg; have hcz20_0 : w19.cell? ⟨gb373, 0, none⟩ = some (.int .i64 0) := (bc BK373.out 0).trans rfl; have hcz20_1 : w19.cell? ⟨gb373, 1, none⟩ = some (.int .i64 0) := (bc BK373.out 1).trans rfl; have hcz20_2 : w19.cell? ⟨gb373, 2, none⟩ = some (.int .i64 0) := (bc BK373.out 2).trans rfl; have hcz20_3 : w19.cell? ⟨gb373, 3, none⟩ = some (.bool false) := (bc BK373.out 3).trans rfl; have hfz20_0 := bz BK373.out 0; have hfz20_1 := bz BK373.out 1; have hfz20_2 := bz BK373.out 2; have hfz20_3 := bz BK373.out 3))
        go_roundg k1
        case measure => have := HK1.out; omega
        case rel => exact ⟨(wrap64 (x9_1 + 1)), (by first | rfl | (simp; done) | (simp [*]; done)), H', ⟨by have := HK1.out; omega⟩, ⟨by repeat (first | (with_reducible first | exact HB.out | apply wa | apply wN | apply wd | refine ws ?_ GE373.out) | exact HB.out)⟩⟩
      rw [if_pos c6] at H
      have c6b0 : decide (0 ≤ a1) = true := decide_eq_true c6
      clear c6
      replace H := Option.bind_eq_some_iff.mp H
      obtain ⟨t374, A70, H⟩ := H
      replace H : ((slices_Contains_int_int.f k1 t374 a1).bind fun t377 => (if t377 = true then (some ((rd_T84 l0 x9_1).f0)) else (impl_HolderOf.l0 k1 a1 l0 (l0.length : Int) (wrap64 (x9_1 + 1))))) = some r := H
      have A7 := Aside0.mk A70
      clear A70
      replace H := Option.bind_eq_some_iff.mp H
      obtain ⟨t377, A80, H⟩ := H
      replace H : (if t377 = true then (some ((rd_T84 l0 x9_1).f0)) else (impl_HolderOf.l0 k1 a1 l0 (l0.length : Int) (wrap64 (x9_1 + 1)))) = some r := H
      have A8 := Aside0.mk A80
      clear A80
      by_cases c9 : t377 = true
      rotate_left
      · replace c9 := Bool.eq_false_iff.mpr c9
        subst c9
        have H1 : (impl_HolderOf.l0 k1 a1 l0 (l0.length : Int) (wrap64 (x9_1 + 1))) = some r := by rw [if_neg (show ¬ (false = true) by decide)] at H; exact H
        clear H
        have H := H1
        clear H1
        have H' := Aside0.mk H
        clear H
        have p372 : 0 ≤ (x9_1 : Int) := of_decide_eq_true (by first | (with_reducible assumption) | assumption)
        have q372 : x9_1 < (l0.length : Int) := of_decide_eq_true (by first | (with_reducible assumption) | assumption)
        obtain ⟨ad372, e372, hx372_0, hx372_1, hx372_2, hx372_3⟩ := at_T84 HR0.out x9_1 p372 q372
        cases e372
        replace hx372_0 := (HB.out.cell (World.block_lt_of_cell? w _ hx372_0)).trans hx372_0
        replace hx372_1 := (HB.out.cell (World.block_lt_of_cell? w _ hx372_1)).trans hx372_1
        replace hx372_2 := (HB.out.cell (World.block_lt_of_cell? w _ hx372_2)).trans hx372_2
        replace hx372_3 := (HB.out.cell (World.block_lt_of_cell? w _ hx372_3)).trans hx372_3
        replace p372 := eq_true p372
        replace q372 := eq_true q372
        go_wp2_with (first | ((with_reducible refine gate_dst (N := 6) rfl ?_); refine box_event ?hg (N := 6) ?hd (cs := #[.int .i64 0, .int .i64 0, .int .i64 0, .bool false]) (t := 84) ?hr ?_; (case hd => rfl); (case hg => rfl); (case hr => first | (go_simp; done) | (go_simp; rfl)); intro gb373 hg w15 hbox hb; have n0_ := Aside0.mk (below_step (by repeat (first | (with_reducible first | exact HB.out | apply wa | apply wN | apply wd) | exact HB.out)) hb); have n1_ := Aside0.mk (hbox); have n2_ := Aside0.mk ((by rw [hg]; exact (below_size (by repeat (first | (with_reducible first | exact HB.out | apply wa | apply wN | apply wd) | exact HB.out))) : w.heap.size ≤ gb373)); have n3_ := n2_; clear HB; have HB := n0_; have BK373 := n1_; have GW373 := n2_; have GE373 := n3_; clear n0_ n1_ n2_ n3_; clear hb hbox hg; have hcz16_0 : w15.cell? ⟨gb373, 0, none⟩ = some (.int .i64 0) := (bc BK373.out 0).trans rfl; have hcz16_1 : w15.cell? ⟨gb373, 1, none⟩ = some (.int .i64 0) := (bc BK373.out 1).trans rfl; have hcz16_2 : w15.cell? ⟨gb373, 2, none⟩ = some (.int .i64 0) := (bc BK373.out 2).trans rfl; have hcz16_3 : w15.cell? ⟨gb373, 3, none⟩ = some (.bool false) := (bc BK373.out 3).trans rfl; have hfz16_0 := bz BK373.out 0; have hfz16_1 := bz BK373.out 1; have hfz16_2 := bz BK373.out 2; have hfz16_3 := bz BK373.out 3) | (go_at_call 96; (with_reducible refine (impl_heldBy.calls ((rd_T84 l0 x9_1).f0) ((rd_T84 l0 x9_1).f1) ((rd_T84 l0 x9_1).f2) ((rd_T84 l0 x9_1).f3) t374 _ A7.out).mono ?_); rintro e w17 ⟨v375, rfl, ho0, hb⟩; have n0_ := Aside0.mk (Kd.R_lower ho0 (below_size (by repeat (first | (with_reducible first | exact HB.out | apply wa | apply wN | apply wd | refine ws ?_ GE373.out) | exact HB.out)))); have n1_ := Aside0.mk (bb (g := gb373) (o := .cells #[.int .i64 ((rd_T84 l0 x9_1).f0), .int .i64 ((rd_T84 l0 x9_1).f1), .int .i64 ((rd_T84 l0 x9_1).f2), .bool ((rd_T84 l0 x9_1).f3)] 84 (0, 0)) (by (with_reducible repeat first | apply bN | apply bd | apply ba); refine blk_put (cs := #[.int .i64 ((rd_T84 l0 x9_1).f0), .int .i64 ((rd_T84 l0 x9_1).f1), .int .i64 ((rd_T84 l0 x9_1).f2), .bool false]) ?_ 3 _ rfl; (with_reducible repeat first | apply bN | apply bd | apply ba); refine blk_put (cs := #[.int .i64 ((rd_T84 l0 x9_1).f0), .int .i64 ((rd_T84 l0 x9_1).f1), .int .i64 0, .bool false]) ?_ 2 _ rfl; (with_reducible repeat first | apply bN | apply bd | apply ba); refine blk_put (cs := #[.int .i64 ((rd_T84 l0 x9_1).f0), .int .i64 0, .int .i64 0, .bool false]) ?_ 1 _ rfl; (with_reducible repeat first | apply bN | apply bd | apply ba); refine blk_put (cs := #[.int .i64 0, .int .i64 0, .int .i64 0, .bool false]) ?_ 0 _ rfl; (with_reducible repeat first | apply bN | apply bd | apply ba); exact BK373.out) hb); have n2_ := Aside0.mk (below_step (by repeat (first | (with_reducible first | exact HB.out | apply wa | apply wN | apply wd | refine ws ?_ GE373.out) | exact HB.out)) hb); clear BK373; clear HB; have HO376 := n0_; have BK373 := n1_; have HB := n2_; clear n0_ n1_ n2_; (try clear hb); (try clear hb2); (try clear hk); (try clear hi); (try clear ho0); obtain ⟨Ao18, co18, eo18⟩ := Kd.R_slice HO376.out; subst eo18) | (go_at_call 99; (with_reducible refine (slices_Contains_int_int.calls k1 _ _ t374 a1 false _ ?side1 ?side2 A8.out).mono ?_); (case side1 => repeat (first | exact (Kd.R_reads' HO376.out).2.2 | (with_reducible refine Kd.Ca ?_ _) | (with_reducible refine Kd.Cn ?_ _) | (with_reducible refine Kd.Cd ?_))); (case side2 => exact (Kd.R_reads' HO376.out).2.1); rintro e w' ⟨rfl, ⟨nd, rfl⟩⟩))
        go_roundg k1
        case measure => have := HK1.out; omega
        case rel => exact ⟨(wrap64 (x9_1 + 1)), (by first | rfl | (simp; done) | (simp [*]; done)), H', ⟨by have := HK1.out; omega⟩, ⟨by repeat (first | (with_reducible first | exact HB.out | apply wa | apply wN | apply wd | refine ws ?_ GE373.out) | exact HB.out)⟩⟩
      subst c9
      have H1 : (some ((rd_T84 l0 x9_1).f0)) = some r := by rw [if_pos rfl] at H; exact H
      clear H
      have H := H1
      clear H1
      obtain rfl := Option.some.inj H
      have p372 : 0 ≤ (x9_1 : Int) := of_decide_eq_true (by first | (with_reducible assumption) | assumption)
      have q372 : x9_1 < (l0.length : Int) := of_decide_eq_true (by first | (with_reducible assumption) | assumption)
      obtain ⟨ad372, e372, hx372_0, hx372_1, hx372_2, hx372_3⟩ := at_T84 HR0.out x9_1 p372 q372
      cases e372
      replace hx372_0 := (HB.out.cell (World.block_lt_of_cell? w _ hx372_0)).trans hx372_0
      replace hx372_1 := (HB.out.cell (World.block_lt_of_cell? w _ hx372_1)).trans hx372_1
      replace hx372_2 := (HB.out.cell (World.block_lt_of_cell? w _ hx372_2)).trans hx372_2
      replace hx372_3 := (HB.out.cell (World.block_lt_of_cell? w _ hx372_3)).trans hx372_3
      replace p372 := eq_true p372
      replace q372 := eq_true q372
      go_wp2_with (first | ((with_reducible refine gate_dst (N := 6) rfl ?_); refine box_event ?hg (N := 6) ?hd (cs := #[.int .i64 0, .int .i64 0, .int .i64 0, .bool false]) (t := 84) ?hr ?_; (case hd => rfl); (case hg => rfl); (case hr => first | (go_simp; done) | (go_simp; rfl)); intro gb373 hg w10 hbox hb; have n0_ := Aside0.mk (below_step (by repeat (first | (with_reducible first | exact HB.out | apply wa | apply wN | apply wd) | exact HB.out)) hb); have n1_ := Aside0.mk (hbox); have n2_ := Aside0.mk ((by rw [hg]; exact (below_size (by repeat (first | (with_reducible first | exact HB.out | apply wa | apply wN | apply wd) | exact HB.out))) : w.heap.size ≤ gb373)); have n3_ := n2_; clear HB; have HB := n0_; have BK373 := n1_; have GW373 := n2_; have GE373 := n3_; clear n0_ n1_ n2_ n3_; clear hb hbox hg; have hcz11_0 : w10.cell? ⟨gb373, 0, none⟩ = some (.int .i64 0) := (bc BK373.out 0).trans rfl; have hcz11_1 : w10.cell? ⟨gb373, 1, none⟩ = some (.int .i64 0) := (bc BK373.out 1).trans rfl; have hcz11_2 : w10.cell? ⟨gb373, 2, none⟩ = some (.int .i64 0) := (bc BK373.out 2).trans rfl; have hcz11_3 : w10.cell? ⟨gb373, 3, none⟩ = some (.bool false) := (bc BK373.out 3).trans rfl; have hfz11_0 := bz BK373.out 0; have hfz11_1 := bz BK373.out 1; have hfz11_2 := bz BK373.out 2; have hfz11_3 := bz BK373.out 3) | (go_at_call 96; (with_reducible refine (impl_heldBy.calls ((rd_T84 l0 x9_1).f0) ((rd_T84 l0 x9_1).f1) ((rd_T84 l0 x9_1).f2) ((rd_T84 l0 x9_1).f3) t374 _ A7.out).mono ?_); rintro e w12 ⟨v375, rfl, ho0, hb⟩; have n0_ := Aside0.mk (Kd.R_lower ho0 (below_size (by repeat (first | (with_reducible first | exact HB.out | apply wa | apply wN | apply wd | refine ws ?_ GE373.out) | exact HB.out)))); have n1_ := Aside0.mk (bb (g := gb373) (o := .cells #[.int .i64 ((rd_T84 l0 x9_1).f0), .int .i64 ((rd_T84 l0 x9_1).f1), .int .i64 ((rd_T84 l0 x9_1).f2), .bool ((rd_T84 l0 x9_1).f3)] 84 (0, 0)) (by (with_reducible repeat first | apply bN | apply bd | apply ba); refine blk_put (cs := #[.int .i64 ((rd_T84 l0 x9_1).f0), .int .i64 ((rd_T84 l0 x9_1).f1), .int .i64 ((rd_T84 l0 x9_1).f2), .bool false]) ?_ 3 _ rfl; (with_reducible repeat first | apply bN | apply bd | apply ba); refine blk_put (cs := #[.int .i64 ((rd_T84 l0 x9_1).f0), .int .i64 ((rd_T84 l0 x9_1).f1), .int .i64 0, .bool false]) ?_ 2 _ rfl; (with_reducible repeat first | apply bN | apply bd | apply ba); refine blk_put (cs := #[.int .i64 ((rd_T84 l0 x9_1).f0), .int .i64 0, .int .i64 0, .bool false]) ?_ 1 _ rfl; (with_reducible repeat first | apply bN | apply bd | apply ba); refine blk_put (cs := #[.int .i64 0, .int .i64 0, .int .i64 0, .bool false]) ?_ 0 _ rfl; (with_reducible repeat first | apply bN | apply bd | apply ba); exact BK373.out) hb); have n2_ := Aside0.mk (below_step (by repeat (first | (with_reducible first | exact HB.out | apply wa | apply wN | apply wd | refine ws ?_ GE373.out) | exact HB.out)) hb); clear BK373; clear HB; have HO376 := n0_; have BK373 := n1_; have HB := n2_; clear n0_ n1_ n2_; (try clear hb); (try clear hb2); (try clear hk); (try clear hi); (try clear ho0); obtain ⟨Ao13, co13, eo13⟩ := Kd.R_slice HO376.out; subst eo13) | (go_at_call 99; (with_reducible refine (slices_Contains_int_int.calls k1 _ _ t374 a1 true _ ?side1 ?side2 A8.out).mono ?_); (case side1 => repeat (first | exact (Kd.R_reads' HO376.out).2.2 | (with_reducible refine Kd.Ca ?_ _) | (with_reducible refine Kd.Cn ?_ _) | (with_reducible refine Kd.Cd ?_))); (case side2 => exact (Kd.R_reads' HO376.out).2.1); rintro e w' ⟨rfl, ⟨nd, rfl⟩⟩; have hcz14_0 : w12.cell? ⟨gb373, 0, none⟩ = some (.int .i64 ((rd_T84 l0 x9_1).f0)) := (bc BK373.out 0).trans rfl; have hcz14_1 : w12.cell? ⟨gb373, 1, none⟩ = some (.int .i64 ((rd_T84 l0 x9_1).f1)) := (bc BK373.out 1).trans rfl; have hcz14_2 : w12.cell? ⟨gb373, 2, none⟩ = some (.int .i64 ((rd_T84 l0 x9_1).f2)) := (bc BK373.out 2).trans rfl; have hcz14_3 : w12.cell? ⟨gb373, 3, none⟩ = some (.bool ((rd_T84 l0 x9_1).f3)) := (bc BK373.out 3).trans rfl; have hfz14_0 := bz BK373.out 0; have hfz14_1 := bz BK373.out 1; have hfz14_2 := bz BK373.out 2; have hfz14_3 := bz BK373.out 3))
      go_ret
      exact ⟨by first | rfl | (simp [errW_none, errW_some] <;> rfl) | (simp [*, errW_none, errW_some] <;> rfl), by repeat (first | (with_reducible first | exact HB.out | apply wa | apply wN | apply wd | refine ws ?_ GE373.out) | exact HB.out)⟩

/-! ### slices_IndexFunc_Robot: function 100 -/
open Go.Proofs.Ytfinjkjnoobbjaa.MyHof in
set_option maxHeartbeats 2000000 in
set_option maxRecDepth 100000 in
theorem slices_IndexFunc_Robot.hof (g : Nat) (lb : Array Value) (eg : ∀ args w, (callFunc g args).run Try.prog w = .ok (.enter g args) w) (p : S84 → Bool) (A0 : Option Addr) (c0 : Nat) (l0 : List S84) (w : World)
    (hr0 : Kd.C k84 w A0 l0.length l0) (hc0 : l0.length ≤ c0) (hp : PredB Try.prog g lb (fun x : S84 => .agg #[.int .i64 x.f0, .int .i64 x.f1, .int .i64 x.f2, .bool x.f3]) p l0 w) :
    Calls Try.prog 100 #[.slice A0 l0.length c0, .func (.func g) #[] lb] w fun e w' => e = .returned (.int .i64 (idxOf p l0)) ∧ Below w.heap.size w w' := by
  have hbig : l0.length ≤ 9223372036854775807 := hr0.2.1
  have hu := Try.underlying84
  have HR := Aside0.mk hr0
  have HP := Aside0.mk hp
  clear hr0 hp hc0
  go_enter Try.func100, Try.ntmps100
  go_wp2
  go_loopg [5, 8] l0.length (fun gg _ s8 wr => ∃ x8 : Int, s8 = .int .i64 x8 ∧ Aside0 (0 ≤ x8 ∧ x8 ≤ l0.length) ∧ Aside0 (l0.length - x8.toNat ≤ gg) ∧ Aside0 (Below w.heap.size w wr) ∧ Aside0 (∀ x ∈ l0.take x8.toNat, p x = false))
  case atStart => exact ⟨0, rfl, ⟨by omega⟩, ⟨by omega⟩, ⟨Below.refl _ w⟩, ⟨fun x hx => by simp at hx⟩⟩
  case round =>
    obtain ⟨x8, rfl, HX, HG, HB, HA⟩ := hrel
    by_cases hlt : x8 < (l0.length : Int)
    rotate_left
    · have HL := Aside0.mk hlt
      have hlt' : decide (x8 < (l0.length : Int)) = false := decide_eq_false hlt
      clear hlt
      go_wp2
      go_ret
      refine ⟨?_, HB.out⟩
      have : x8.toNat = l0.length := by have := HL.out; have := HX.out; omega
      rw [idxOf_miss (by have h := HA.out; rw [this, List.take_length] at h; exact h)]
      rfl
    have h0 := HX.out.1
    have hn : x8.toNat < l0.length := by omega
    obtain ⟨ad, e, hx0, hx1, hx2, hx3⟩ := at_T84 HR.out x8 h0 hlt
    cases e
    replace hx0 := (HB.out.cell (World.block_lt_of_cell? w _ hx0)).trans hx0
    replace hx1 := (HB.out.cell (World.block_lt_of_cell? w _ hx1)).trans hx1
    replace hx2 := (HB.out.cell (World.block_lt_of_cell? w _ hx2)).trans hx2
    replace hx3 := (HB.out.cell (World.block_lt_of_cell? w _ hx3)).trans hx3
    have hcall := HP.out _ (l0[x8.toNat]) (List.getElem_mem hn) HB.out
    have HN := Aside0.mk hn
    have HL := Aside0.mk hlt
    have hv0 : rd_T84 l0 x8 = l0[x8.toNat] := by simp [rd_T84, List.getD, hn]
    have hlt' := eq_true hlt
    have hlt'' : decide (x8 < (l0.length : Int)) = true := decide_eq_true hlt
    have h0'' : decide (0 ≤ x8) = true := decide_eq_true h0
    have h0' := eq_true h0
    rw [← hv0] at hcall
    obtain ⟨v, hv⟩ : ∃ v, v = rd_T84 l0 x8 := ⟨_, rfl⟩
    rw [← hv] at hx0 hx1 hx2 hx3 hcall
    have HVV : Aside0 (∀ h : x8.toNat < l0.length, l0[x8.toNat] = v) := ⟨fun _ => by rw [hv, hv0]⟩
    clear hv hv0 hlt h0 hn
    cases hq : p v with
    | true =>
      have HQ := Aside0.mk hq
      rw [hq] at hcall
      clear hq
      go_wp2_with (go_at_fn g; refine hcall.mono ?_; rintro e w' ⟨rfl, hb'⟩)
      go_ret
      refine ⟨?_, hb'⟩
      have e8 : ((x8.toNat : Nat) : Int) = x8 := by have := HX.out; omega
      rw [idxOf_hit HN.out (by rw [HVV.out HN.out]; exact HQ.out) HA.out, e8]
      rfl
    | false =>
      have HQ := Aside0.mk hq
      rw [hq] at hcall
      clear hq
      go_wp2_with (go_at_fn g; refine hcall.mono ?_; rintro e w' ⟨rfl, hb'⟩)
      have hw : wrap64 (x8 + 1) = x8 + 1 := by have := HL.out; have := HX.out; unfold wrap64; omega
      go_roundg (l0.length - (x8.toNat + 1))
      case measure => have := HN.out; have := HG.out; omega
      case rel =>
        refine ⟨x8 + 1, by first | rfl | (rw [hw]) | simp [hw], ⟨by have := HL.out; have := HX.out; omega⟩, ⟨by have := HX.out; omega⟩, ⟨hb'⟩, ⟨?_⟩⟩
        have e1 : (x8 + 1).toNat = x8.toNat + 1 := by have := HX.out; omega
        rw [e1]
        exact take_snoc_all HN.out HA.out (by rw [HVV.out HN.out]; exact HQ.out)

/-! ### impl_RobotAt: function 42 -/
open Go.Proofs.Ytfinjkjnoobbjaa.MyHof in
def impl_RobotAt.f (l0 : List (S84)) (a1 : Int) : Option (Int) := some (idxOf (fun x : S84 => x.f0 == a1) l0)
open Go.Proofs.Ytfinjkjnoobbjaa.MyHof in
set_option maxHeartbeats 2000000 in
theorem impl_RobotAt.inner (c : Int) (B : Nat) (l : List S84) (w : World) (hB : B < w.heap.size) (hcell : w.cell? ⟨B, 0, none⟩ = some (.int .i64 c)) :
    PredB Try.prog 101 #[.pointer (some ⟨B, 0, none⟩)] (fun x : S84 => .agg #[.int .i64 x.f0, .int .i64 x.f1, .int .i64 x.f2, .bool x.f3]) (fun x => x.f0 == c) l w := fun W x _ hb => by
  have hc : W.cell? ⟨B, 0, none⟩ = some (.int .i64 c) := (hb.cell (p := ⟨B, 0, none⟩) hB).trans hcell
  have hBW : B < W.heap.size := Nat.lt_of_lt_of_le hB hb.size
  have hne : B ≠ W.heap.size := by omega
  have hu := Try.underlying84
  show Calls Try.prog 101 #[.agg #[.int .i64 x.f0, .int .i64 x.f1, .int .i64 x.f2, .bool x.f3], .pointer (some ⟨B, 0, none⟩)] W fun e w' => e = .returned (.bool (x.f0 == c)) ∧ Below w.heap.size w w'
  cases h1 : (x.f0 == c)
  · go_enter Try.func101, Try.ntmps101
    go_wp2
    go_ret
    exact ⟨by first | rfl | simp_all, hb.alloc hb.size _⟩
  · go_enter Try.func101, Try.ntmps101
    go_wp2
    go_ret
    exact ⟨by first | rfl | simp_all, hb.alloc hb.size _⟩
open Go.Proofs.Ytfinjkjnoobbjaa.MyHof in
set_option maxHeartbeats 4000000 in
set_option maxRecDepth 100000 in
theorem impl_RobotAt.calls (A0 : Option Addr) (c0 : Nat) (l0 : List (S84)) (a1 : Int) (r : Int) (w : World) (hr0 : Kd.C k84 w A0 l0.length l0) (hc0 : l0.length ≤ c0) (h : impl_RobotAt.f l0 a1 = some r) :
    Calls Try.prog 42 #[.slice A0 l0.length c0, .int .i64 a1] w fun e w' => e = .returned (.int .i64 r) ∧ Below w.heap.size w w' := by
  obtain rfl := Option.some.inj h
  have eg : ∀ args w, (callFunc 101 args).run Try.prog w = .ok (.enter 101 args) w := enters_of Try.func101 (by kernel_rfl) rfl
  have hb1 : Below w.heap.size w (w.alloc (.cells #[.int .i64 a1] 3)) := wa (Below.refl _ w) _
  have hcon := slices_IndexFunc_Robot.hof 101 #[.pointer (some ⟨w.heap.size, 0, none⟩)] eg (fun x => x.f0 == a1) A0 c0 l0 (w.alloc (.cells #[.int .i64 a1] 3)) (Kd.C_below hr0 hb1) hc0 (impl_RobotAt.inner a1 w.heap.size l0 _ (by simp) (by simp))
  have HB1 := Aside0.mk hb1
  clear hb1 hr0 hc0 h
  generalize idxOf (fun x : S84 => x.f0 == a1) l0 = q at hcon ⊢
  go_enter Try.func42, Try.ntmps42
  go_wp2_with (go_at_call 100; refine hcon.mono ?_; rintro e w' ⟨rfl, hb'⟩)
  go_ret
  exact ⟨rfl, below_then HB1.out HB1.out.size hb'⟩


/-! ### laws_has: function 43 -/
def laws_has.l0 : Nat → List Int → Int → Int → Option (Bool)
  | 0, _, _, _ => none
  | k + 1, x0, x1, x5 => if x5 < (x0.length : Int) then (if 0 ≤ x5 then (if (rd x0 x5) = x1 then (some true) else (laws_has.l0 k x0 x1 (wrap64 (x5 + 1)))) else (none)) else (some false)
def laws_has.f (k : Nat) (l0 : List Int) (a1 : Int) : Option (Bool) := laws_has.l0 k l0 a1 0
theorem laws_has.mono_l : ∀ k, (∀ y0 y1 y2, LeO (laws_has.l0 k y0 y1 y2) (laws_has.l0 (k + 1) y0 y1 y2))
  | 0 => fun _ _ _ r h => by simp [laws_has.l0] at h
  | k + 1 => by
    have ih0 := laws_has.mono_l k
    · intro y0 y1 y2
      unfold laws_has.l0
      repeat' first
      | (with_reducible exact ih0 _ _ _)
      | (with_reducible exact LeO.refl _)
      | (with_reducible exact LeO.none _)
      | (with_reducible refine LeO.ite ?_ ?_)
      | (with_reducible refine LeO.bind ?_ (fun _ => ?_))
      | exact ih0 _ _ _
      | exact LeO.none _
      | refine LeO.ite ?_ ?_
      | refine LeO.bind ?_ (fun _ => ?_)
theorem laws_has.mono : ∀ a0 a1 k, LeO (laws_has.f k a0 a1) (laws_has.f (k + 1) a0 a1) := by
  intro a0 a1 k
  have ih0 := laws_has.mono_l k
  unfold laws_has.f
  repeat' first
      | (with_reducible exact ih0 _ _ _)
      | (with_reducible exact LeO.refl _)
      | (with_reducible exact LeO.none _)
      | (with_reducible refine LeO.ite ?_ ?_)
      | (with_reducible refine LeO.bind ?_ (fun _ => ?_))
      | exact ih0 _ _ _
      | exact LeO.none _
      | refine LeO.ite ?_ ?_
      | refine LeO.bind ?_ (fun _ => ?_)
set_option maxHeartbeats 8000000 in
set_option maxRecDepth 100000 in
theorem laws_has.calls (k : Nat) (A0 : Option Addr) (c0 : Nat) (l0 : List Int) (a1 : Int) (r : Bool) (w : World) (hr0 : Kd.C (Kd.int .i64) w A0 l0.length l0) (hc0 : l0.length ≤ c0) (h : laws_has.f k l0 a1 = some r) :
    Calls Try.prog 43 #[.slice A0 l0.length c0, .int .i64 a1] w fun e w' => e = .returned (.bool r) ∧ Drawn0 w w' := by
  have HR0 := Aside0.mk hr0
  have HC0 := Aside0.mk hc0
  clear hr0 hc0
  have H : (laws_has.l0 k l0 a1 0) = some r := h
  clear h
  have H' := Aside0.mk H
  clear H
  go_enter Try.func43, Try.ntmps43
  go_wp2
  go_loopg [5] k (fun kq v5 w' => ∃ (x5_1 : Int), v5 = .int .i64 x5_1 ∧ Aside0 (laws_has.l0 kq l0 a1 x5_1 = some r) ∧ Aside0 (kq ≤ k) ∧ Drawn0 w w')
  case atStart => exact ⟨(0), (by first | rfl | (simp; done) | (simp [*]; done)), H', ⟨Nat.le_refl _⟩, by repeat (first | exact Drawn0.refl _ | apply Drawn0.step)⟩
  case round =>
    clear H'
    try clear p2
    obtain ⟨x5_1, rfl, HA, HK1, ⟨m1, rfl⟩⟩ := hrel
    cases gk with
    | zero => exact absurd HA.out (by simp [laws_has.l0])
    | succ k1 =>
      have H := HA.out
      clear HA
      simp only [laws_has.l0] at H
      by_cases c3 : x5_1 < (l0.length : Int)
      rotate_left
      · rw [if_neg c3] at H
        have c3b0 : decide (x5_1 < (l0.length : Int)) = false := decide_eq_false c3
        clear c3
        obtain rfl := Option.some.inj H
        go_wp2
        go_ret
        exact ⟨by first | rfl | (simp; done) | (simp [*]; done), by repeat (first | exact Drawn0.refl _ | apply Drawn0.step)⟩
      rw [if_pos c3] at H
      have c3b0 : decide (x5_1 < (l0.length : Int)) = true := decide_eq_true c3
      clear c3
      by_cases c4 : 0 ≤ x5_1
      rotate_left
      · rw [if_neg c4] at H
        exact absurd H (by simp)
      rw [if_pos c4] at H
      have c4b0 : decide (0 ≤ x5_1) = true := decide_eq_true c4
      clear c4
      by_cases c5 : (rd l0 x5_1) = a1
      · rw [if_pos c5] at H
        have c5b0 : ((rd l0 x5_1) == a1) = true := beq_iff_eq.mpr c5
        have c5b1 : ((rd l0 x5_1) != a1) = false := bne_eq_false_iff_eq.mpr c5
        clear c5
        obtain rfl := Option.some.inj H
        have p378 : 0 ≤ (x5_1 : Int) := of_decide_eq_true (by first | (with_reducible assumption) | assumption)
        have q378 : x5_1 < (l0.length : Int) := of_decide_eq_true (by first | (with_reducible assumption) | assumption)
        obtain ⟨ad378, e378, hx378_0⟩ := Kd.at_int HR0.out x5_1 p378 q378
        cases e378
        replace p378 := eq_true p378
        replace q378 := eq_true q378
        go_wp2
        go_ret
        exact ⟨by first | rfl | (simp; done) | (simp [*]; done), by repeat (first | exact Drawn0.refl _ | apply Drawn0.step)⟩
      rw [if_neg c5] at H
      have c5b0 : ((rd l0 x5_1) == a1) = false := beq_eq_false_iff_ne.mpr c5
      have c5b1 : ((rd l0 x5_1) != a1) = true := bne_iff_ne.mpr c5
      have H' := Aside0.mk H
      clear H
      have p378 : 0 ≤ (x5_1 : Int) := of_decide_eq_true (by first | (with_reducible assumption) | assumption)
      have q378 : x5_1 < (l0.length : Int) := of_decide_eq_true (by first | (with_reducible assumption) | assumption)
      obtain ⟨ad378, e378, hx378_0⟩ := Kd.at_int HR0.out x5_1 p378 q378
      cases e378
      replace p378 := eq_true p378
      replace q378 := eq_true q378
      go_wp2
      go_roundg k1
      case measure => have := HK1.out; omega
      case rel => exact ⟨(wrap64 (x5_1 + 1)), (by first | rfl | (simp; done) | (simp [*]; done)), H', ⟨by have := HK1.out; omega⟩, by repeat (first | exact Drawn0.refl _ | apply Drawn0.step)⟩

end Go.Proofs.Ytfinjkjnoobbjaa.MFnTeams
