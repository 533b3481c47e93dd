/- Made by a program of this session (out of the kit's print, with hand-made contracts): what each Go function that the law reaches computes, and that the machine's call does so. -/
import Derived.Test.YtaddjeoncbmohaaDoorMFnCmdsx0
import Derived.Test.YtaddjeoncbmohaaDoorMFnCmdsx3
import Derived.Test.YtaddjeoncbmohaaDoorMFnCmdsx4
namespace Go.Proofs.YtaddjeoncbmohaaDoor.MFnCmds
open Go.RowKit Go.Proofs.YtaddjeoncbmohaaDoorW.PrintWords Go.Proofs.YtaddjeoncbmohaaDoorW.PrintLast Go.Proofs.YtaddjeoncbmohaaDoorW.PrintMore
attribute [local go_sem] max2_int min2_int max_two min_two max_three min_three max_four min_four   -- for this text's walks alone
set_option linter.unusedVariables false
set_option linter.unusedSimpArgs false

/-! ### impl_CmdText: function 13 -/
def impl_CmdText.j0 : Nat → ByteArray → Int → Bool → Int → Int → Int → Option (ByteArray × Bool)
  | 0, _, _, _, _, _, _ => none
  | k + 1, x4, x5, x51, x168000, x168001, x168002 => if x51 = true then (some ((⟨#[]⟩ : ByteArray), false)) else (if x5 > 0 then ((impl_Decimal.f x168001).bind fun t170 => (if 1 + t170.size ≤ 9223372036854775807 then (if x4.size + ((⟨#[32]⟩ : ByteArray) ++ t170).size ≤ 9223372036854775807 then (if x5 > 1 then ((impl_Decimal.f x168002).bind fun t171 => (if 1 + t171.size ≤ 9223372036854775807 then (if (x4 ++ ((⟨#[32]⟩ : ByteArray) ++ t170)).size + ((⟨#[32]⟩ : ByteArray) ++ t171).size ≤ 9223372036854775807 then (some ((x4 ++ ((⟨#[32]⟩ : ByteArray) ++ t170)) ++ ((⟨#[32]⟩ : ByteArray) ++ t171), true)) else (none)) else (none))) else (some (x4 ++ ((⟨#[32]⟩ : ByteArray) ++ t170), true))) else (none)) else (none))) else (if x5 > 1 then ((impl_Decimal.f x168002).bind fun t172 => (if 1 + t172.size ≤ 9223372036854775807 then (if x4.size + ((⟨#[32]⟩ : ByteArray) ++ t172).size ≤ 9223372036854775807 then (some (x4 ++ ((⟨#[32]⟩ : ByteArray) ++ t172), true)) else (none)) else (none))) else (some (x4, true))))
def impl_CmdText.f (k : Nat) (a0_0 : Int) (a0_1 : Int) (a0_2 : Int) : Option (ByteArray × Bool) := (impl_wordOf.f a0_0).bind fun bt168 => (if bt168.2 < 0 then (impl_CmdText.j0 k bt168.1 bt168.2 true a0_0 a0_1 a0_2) else (if a0_1 < 0 then (impl_CmdText.j0 k bt168.1 bt168.2 true a0_0 a0_1 a0_2) else (if a0_1 > 1000000000 then (impl_CmdText.j0 k bt168.1 bt168.2 true a0_0 a0_1 a0_2) else (if a0_2 < 0 then (impl_CmdText.j0 k bt168.1 bt168.2 true a0_0 a0_1 a0_2) else (if a0_2 > 1000000000 then (impl_CmdText.j0 k bt168.1 bt168.2 true a0_0 a0_1 a0_2) else (if bt168.2 < 1 then (if a0_1 = 0 then (if bt168.2 < 2 then (impl_CmdText.j0 k bt168.1 bt168.2 (a0_2 != 0) a0_0 a0_1 a0_2) else (impl_CmdText.j0 k bt168.1 bt168.2 false a0_0 a0_1 a0_2)) else (impl_CmdText.j0 k bt168.1 bt168.2 true a0_0 a0_1 a0_2)) else (if bt168.2 < 2 then (impl_CmdText.j0 k bt168.1 bt168.2 (a0_2 != 0) a0_0 a0_1 a0_2) else (impl_CmdText.j0 k bt168.1 bt168.2 false a0_0 a0_1 a0_2))))))))
theorem impl_CmdText.mono_l : ∀ k, (∀ y0 y1 y2 y3 y4 y5, LeO (impl_CmdText.j0 k y0 y1 y2 y3 y4 y5) (impl_CmdText.j0 (k + 1) y0 y1 y2 y3 y4 y5))
  | 0 => fun _ _ _ _ _ _ r h => by simp [impl_CmdText.j0] at h
  | k + 1 => by
    have ih0 := impl_CmdText.mono_l k
    · intro y0 y1 y2 y3 y4 y5
      unfold impl_CmdText.j0
      repeat' first
      | (with_reducible exact ih0 _ _ _ _ _ _)
      | (with_reducible exact LeO.refl _)
      | (with_reducible exact LeO.none _)
      | (with_reducible refine LeO.ite ?_ ?_)
      | (with_reducible refine LeO.bind ?_ (fun _ => ?_))
      | exact ih0 _ _ _ _ _ _
      | exact LeO.none _
      | refine LeO.ite ?_ ?_
      | refine LeO.bind ?_ (fun _ => ?_)
theorem impl_CmdText.mono : ∀ a0 a1 a2 k, LeO (impl_CmdText.f k a0 a1 a2) (impl_CmdText.f (k + 1) a0 a1 a2) := by
  intro a0 a1 a2 k
  have ih0 := impl_CmdText.mono_l k
  unfold impl_CmdText.f
  repeat' first
      | (with_reducible exact ih0 _ _ _ _ _ _)
      | (with_reducible exact LeO.refl _)
      | (with_reducible exact LeO.none _)
      | (with_reducible refine LeO.ite ?_ ?_)
      | (with_reducible refine LeO.bind ?_ (fun _ => ?_))
      | exact ih0 _ _ _ _ _ _
      | exact LeO.none _
      | refine LeO.ite ?_ ?_
      | refine LeO.bind ?_ (fun _ => ?_)
set_option maxHeartbeats 8000000 in
set_option maxRecDepth 100000 in
theorem impl_CmdText.calls (k : Nat) (a0_0 : Int) (a0_1 : Int) (a0_2 : Int) (r1 : ByteArray) (r2 : Bool) (w : World) (ht : Go.Proofs.YtaddjeoncbmohaaDoor.MyDoor.Door true w) (h : impl_CmdText.f k a0_0 a0_1 a0_2 = some (r1, r2)) :
    Calls Tryd.prog 13 #[.agg #[.int .i64 a0_0, .int .i64 a0_1, .int .i64 a0_2]] w fun e w' => e = .returned (.tuple #[.string r1, .bool r2]) ∧ Below w.heap.size w w' := by
  have hu35 := Tryd.underlying35
  have HB := Aside0.mk (Below.refl w.heap.size w)
  have HT := Aside0.mk ht
  clear ht
  have H : ((impl_wordOf.f a0_0).bind fun bt168 => (if bt168.2 < 0 then (impl_CmdText.j0 k bt168.1 bt168.2 true a0_0 a0_1 a0_2) else (if a0_1 < 0 then (impl_CmdText.j0 k bt168.1 bt168.2 true a0_0 a0_1 a0_2) else (if a0_1 > 1000000000 then (impl_CmdText.j0 k bt168.1 bt168.2 true a0_0 a0_1 a0_2) else (if a0_2 < 0 then (impl_CmdText.j0 k bt168.1 bt168.2 true a0_0 a0_1 a0_2) else (if a0_2 > 1000000000 then (impl_CmdText.j0 k bt168.1 bt168.2 true a0_0 a0_1 a0_2) else (if bt168.2 < 1 then (if a0_1 = 0 then (if bt168.2 < 2 then (impl_CmdText.j0 k bt168.1 bt168.2 (a0_2 != 0) a0_0 a0_1 a0_2) else (impl_CmdText.j0 k bt168.1 bt168.2 false a0_0 a0_1 a0_2)) else (impl_CmdText.j0 k bt168.1 bt168.2 true a0_0 a0_1 a0_2)) else (if bt168.2 < 2 then (impl_CmdText.j0 k bt168.1 bt168.2 (a0_2 != 0) a0_0 a0_1 a0_2) else (impl_CmdText.j0 k bt168.1 bt168.2 false a0_0 a0_1 a0_2))))))))) = some (r1, r2) := h
  clear h
  replace H := Option.bind_eq_some_iff.mp H
  obtain ⟨⟨t168, t169⟩, A20, H⟩ := H
  replace H : (if t169 < 0 then (impl_CmdText.j0 k t168 t169 true a0_0 a0_1 a0_2) else (if a0_1 < 0 then (impl_CmdText.j0 k t168 t169 true a0_0 a0_1 a0_2) else (if a0_1 > 1000000000 then (impl_CmdText.j0 k t168 t169 true a0_0 a0_1 a0_2) else (if a0_2 < 0 then (impl_CmdText.j0 k t168 t169 true a0_0 a0_1 a0_2) else (if a0_2 > 1000000000 then (impl_CmdText.j0 k t168 t169 true a0_0 a0_1 a0_2) else (if t169 < 1 then (if a0_1 = 0 then (if t169 < 2 then (impl_CmdText.j0 k t168 t169 (a0_2 != 0) a0_0 a0_1 a0_2) else (impl_CmdText.j0 k t168 t169 false a0_0 a0_1 a0_2)) else (impl_CmdText.j0 k t168 t169 true a0_0 a0_1 a0_2)) else (if t169 < 2 then (impl_CmdText.j0 k t168 t169 (a0_2 != 0) a0_0 a0_1 a0_2) else (impl_CmdText.j0 k t168 t169 false a0_0 a0_1 a0_2)))))))) = some (r1, r2) := H
  have A2 := Aside0.mk A20
  clear A20
  have HC3 := Aside0.mk H
  clear H
  go_enter Tryd.func13, Tryd.ntmps13
  go_upto_region 2 with (first | ((with_reducible refine gate_dst (N := 1) rfl ?_); refine box_event ?hg (N := 1) ?hd (cs := #[.int .i64 a0_0, .int .i64 a0_1, .int .i64 a0_2]) (t := 35) ?hr ?_; (case hd => rfl); (case hg => rfl); (case hr => first | (go_simp; done) | (go_simp; rfl)); intro gb167 hg w4 hbox hb; have n0_ := Aside0.mk (below_step (by repeat (first | (with_reducible first | exact HB.out | apply below_alloc | apply pw_below_drewN | apply below_drew1) | exact HB.out)) hb); have n1_ := Aside0.mk (hbox); have n2_ := Aside0.mk ((by rw [hg]; exact (below_size (by repeat (first | (with_reducible first | exact HB.out | apply below_alloc | apply pw_below_drewN | apply below_drew1) | exact HB.out))) : w.heap.size ≤ gb167)); have n3_ := n2_; clear HB; have HB := n0_; have BK167 := n1_; have GW167 := n2_; have GE167 := n3_; clear n0_ n1_ n2_ n3_; clear hb hbox hg; have hcz5_0 : w4.cell? ⟨gb167, 0, none⟩ = some (.int .i64 a0_0) := (blk_cell BK167.out 0).trans rfl; have hcz5_1 : w4.cell? ⟨gb167, 1, none⟩ = some (.int .i64 a0_1) := (blk_cell BK167.out 1).trans rfl; have hcz5_2 : w4.cell? ⟨gb167, 2, none⟩ = some (.int .i64 a0_2) := (blk_cell BK167.out 2).trans rfl) | ((with_reducible refine gate_callee (f := 27) rfl ?_); refine goesL_ (some 9) rfl rfl Tryd.func27 (by kernel_rfl) rfl #[.int .i64 a0_0] rfl (by (try simp only [List.map_toArray, List.map_cons, List.map_nil]); first | done | rfl | (simp only [List.length_drop, List.length_take]; rfl)) ?_; (with_reducible refine (impl_wordOf.calls a0_0 t168 t169 _ A2.out).mono ?_); rintro e w' ⟨rfl, ⟨nd, rfl⟩⟩; refine ⟨_, rfl, ?_⟩))
  (try simp only [Act.put, List.setIfInBounds_toArray, List.set_cons_zero, List.set_cons_succ])
  go_cut [51] (fun v51 wc => ∃ (kq : Nat) (x51_2 : Bool), v51 = .bool x51_2 ∧ Aside0 (impl_CmdText.j0 kq t168 t169 x51_2 a0_0 a0_1 a0_2 = some (r1, r2)) ∧ Aside0 (kq ≤ k) ∧ Aside0 (wc.heap[gb167]? = some (.cells #[.int .i64 a0_0, .int .i64 a0_1, .int .i64 a0_2] 35 (0, 0))) ∧ Aside0 (Below w.heap.size w wc))
  case first =>
    have H := HC3.out
    clear HC3
    by_cases c6 : t169 < 0
    · rw [if_pos c6] at H
      have c6b0 : decide (t169 < 0) = true := decide_eq_true c6
      clear c6
      (first | rw [c6b0] | (simp only [i64_w, i32_w]; rw [c6b0]) | skip)
      have H' := Aside0.mk H
      clear H
      go_wp2
      go_meet
      case rel => exact ⟨_, (true), (by first | rfl | (simp; done) | (simp [*]; done)), H', ⟨by first | omega | exact Nat.le_refl _⟩, ⟨by (with_reducible repeat (first | refine blk_drewN ?_ _ | refine blk_drew ?_ | refine blk_alloc ?_ _)); exact BK167.out⟩, ⟨by repeat (first | (with_reducible first | exact HB.out | apply below_alloc | apply pw_below_drewN | apply below_drew1 | refine below_set ?_ GE167.out) | exact HB.out)⟩⟩
    · rw [if_neg c6] at H
      have c6b0 : decide (t169 < 0) = false := decide_eq_false c6
      clear c6
      (first | rw [c6b0] | (simp only [i64_w, i32_w]; rw [c6b0]) | skip)
      by_cases c7 : a0_1 < 0
      · rw [if_pos c7] at H
        have c7b0 : decide (a0_1 < 0) = true := decide_eq_true c7
        clear c7
        have H' := Aside0.mk H
        clear H
        have hcz8_0 : w4.cell? ⟨gb167, 0, none⟩ = some (.int .i64 a0_0) := (blk_cell BK167.out 0).trans rfl
        have hcz8_1 : w4.cell? ⟨gb167, 1, none⟩ = some (.int .i64 a0_1) := (blk_cell BK167.out 1).trans rfl
        have hcz8_2 : w4.cell? ⟨gb167, 2, none⟩ = some (.int .i64 a0_2) := (blk_cell BK167.out 2).trans rfl
        go_wp2
        go_meet
        case rel => exact ⟨_, (true), (by first | rfl | (simp; done) | (simp [*]; done)), H', ⟨by first | omega | exact Nat.le_refl _⟩, ⟨by (with_reducible repeat (first | refine blk_drewN ?_ _ | refine blk_drew ?_ | refine blk_alloc ?_ _)); exact BK167.out⟩, ⟨by repeat (first | (with_reducible first | exact HB.out | apply below_alloc | apply pw_below_drewN | apply below_drew1 | refine below_set ?_ GE167.out) | exact HB.out)⟩⟩
      · rw [if_neg c7] at H
        have c7b0 : decide (a0_1 < 0) = false := decide_eq_false c7
        clear c7
        by_cases c9 : a0_1 > 1000000000
        · rw [if_pos c9] at H
          have c9b0 : decide (1000000000 < a0_1) = true := decide_eq_true c9
          clear c9
          have H' := Aside0.mk H
          clear H
          have hcz10_0 : w4.cell? ⟨gb167, 0, none⟩ = some (.int .i64 a0_0) := (blk_cell BK167.out 0).trans rfl
          have hcz10_1 : w4.cell? ⟨gb167, 1, none⟩ = some (.int .i64 a0_1) := (blk_cell BK167.out 1).trans rfl
          have hcz10_2 : w4.cell? ⟨gb167, 2, none⟩ = some (.int .i64 a0_2) := (blk_cell BK167.out 2).trans rfl
          go_wp2
          go_meet
          case rel => exact ⟨_, (true), (by first | rfl | (simp; done) | (simp [*]; done)), H', ⟨by first | omega | exact Nat.le_refl _⟩, ⟨by (with_reducible repeat (first | refine blk_drewN ?_ _ | refine blk_drew ?_ | refine blk_alloc ?_ _)); exact BK167.out⟩, ⟨by repeat (first | (with_reducible first | exact HB.out | apply below_alloc | apply pw_below_drewN | apply below_drew1 | refine below_set ?_ GE167.out) | exact HB.out)⟩⟩
        · rw [if_neg c9] at H
          have c9b0 : decide (1000000000 < a0_1) = false := decide_eq_false c9
          clear c9
          by_cases c11 : a0_2 < 0
          · rw [if_pos c11] at H
            have c11b0 : decide (a0_2 < 0) = true := decide_eq_true c11
            clear c11
            have H' := Aside0.mk H
            clear H
            have hcz12_0 : w4.cell? ⟨gb167, 0, none⟩ = some (.int .i64 a0_0) := (blk_cell BK167.out 0).trans rfl
            have hcz12_1 : w4.cell? ⟨gb167, 1, none⟩ = some (.int .i64 a0_1) := (blk_cell BK167.out 1).trans rfl
            have hcz12_2 : w4.cell? ⟨gb167, 2, none⟩ = some (.int .i64 a0_2) := (blk_cell BK167.out 2).trans rfl
            go_wp2
            go_meet
            case rel => exact ⟨_, (true), (by first | rfl | (simp; done) | (simp [*]; done)), H', ⟨by first | omega | exact Nat.le_refl _⟩, ⟨by (with_reducible repeat (first | refine blk_drewN ?_ _ | refine blk_drew ?_ | refine blk_alloc ?_ _)); exact BK167.out⟩, ⟨by repeat (first | (with_reducible first | exact HB.out | apply below_alloc | apply pw_below_drewN | apply below_drew1 | refine below_set ?_ GE167.out) | exact HB.out)⟩⟩
          · rw [if_neg c11] at H
            have c11b0 : decide (a0_2 < 0) = false := decide_eq_false c11
            clear c11
            by_cases c13 : a0_2 > 1000000000
            · rw [if_pos c13] at H
              have c13b0 : decide (1000000000 < a0_2) = true := decide_eq_true c13
              clear c13
              have H' := Aside0.mk H
              clear H
              have hcz14_0 : w4.cell? ⟨gb167, 0, none⟩ = some (.int .i64 a0_0) := (blk_cell BK167.out 0).trans rfl
              have hcz14_1 : w4.cell? ⟨gb167, 1, none⟩ = some (.int .i64 a0_1) := (blk_cell BK167.out 1).trans rfl
              have hcz14_2 : w4.cell? ⟨gb167, 2, none⟩ = some (.int .i64 a0_2) := (blk_cell BK167.out 2).trans rfl
              go_wp2
              go_meet
              case rel => exact ⟨_, (true), (by first | rfl | (simp; done) | (simp [*]; done)), H', ⟨by first | omega | exact Nat.le_refl _⟩, ⟨by (with_reducible repeat (first | refine blk_drewN ?_ _ | refine blk_drew ?_ | refine blk_alloc ?_ _)); exact BK167.out⟩, ⟨by repeat (first | (with_reducible first | exact HB.out | apply below_alloc | apply pw_below_drewN | apply below_drew1 | refine below_set ?_ GE167.out) | exact HB.out)⟩⟩
            · rw [if_neg c13] at H
              have c13b0 : decide (1000000000 < a0_2) = false := decide_eq_false c13
              clear c13
              by_cases c15 : t169 < 1
              · rw [if_pos c15] at H
                have c15b0 : decide (t169 < 1) = true := decide_eq_true c15
                clear c15
                by_cases c16 : a0_1 = 0
                · rw [if_pos c16] at H
                  have c16b0 : (a0_1 == 0) = true := beq_iff_eq.mpr c16
                  have c16b1 : (a0_1 != 0) = false := bne_eq_false_iff_eq.mpr c16
                  clear c16
                  by_cases c17 : t169 < 2
                  · rw [if_pos c17] at H
                    have c17b0 : decide (t169 < 2) = true := decide_eq_true c17
                    clear c17
                    have H' := Aside0.mk H
                    clear H
                    have hcz18_0 : w4.cell? ⟨gb167, 0, none⟩ = some (.int .i64 a0_0) := (blk_cell BK167.out 0).trans rfl
                    have hcz18_1 : w4.cell? ⟨gb167, 1, none⟩ = some (.int .i64 a0_1) := (blk_cell BK167.out 1).trans rfl
                    have hcz18_2 : w4.cell? ⟨gb167, 2, none⟩ = some (.int .i64 a0_2) := (blk_cell BK167.out 2).trans rfl
                    go_wp2
                    go_meet
                    case rel => exact ⟨_, ((a0_2 != 0)), (by first | rfl | (simp; done) | (simp [*]; done)), H', ⟨by first | omega | exact Nat.le_refl _⟩, ⟨by (with_reducible repeat (first | refine blk_drewN ?_ _ | refine blk_drew ?_ | refine blk_alloc ?_ _)); exact BK167.out⟩, ⟨by repeat (first | (with_reducible first | exact HB.out | apply below_alloc | apply pw_below_drewN | apply below_drew1 | refine below_set ?_ GE167.out) | exact HB.out)⟩⟩
                  · rw [if_neg c17] at H
                    have c17b0 : decide (t169 < 2) = false := decide_eq_false c17
                    clear c17
                    have H' := Aside0.mk H
                    clear H
                    have hcz19_0 : w4.cell? ⟨gb167, 0, none⟩ = some (.int .i64 a0_0) := (blk_cell BK167.out 0).trans rfl
                    have hcz19_1 : w4.cell? ⟨gb167, 1, none⟩ = some (.int .i64 a0_1) := (blk_cell BK167.out 1).trans rfl
                    have hcz19_2 : w4.cell? ⟨gb167, 2, none⟩ = some (.int .i64 a0_2) := (blk_cell BK167.out 2).trans rfl
                    go_wp2
                    go_meet
                    case rel => exact ⟨_, (false), (by first | rfl | (simp; done) | (simp [*]; done)), H', ⟨by first | omega | exact Nat.le_refl _⟩, ⟨by (with_reducible repeat (first | refine blk_drewN ?_ _ | refine blk_drew ?_ | refine blk_alloc ?_ _)); exact BK167.out⟩, ⟨by repeat (first | (with_reducible first | exact HB.out | apply below_alloc | apply pw_below_drewN | apply below_drew1 | refine below_set ?_ GE167.out) | exact HB.out)⟩⟩
                · rw [if_neg c16] at H
                  have c16b0 : (a0_1 == 0) = false := beq_eq_false_iff_ne.mpr c16
                  have c16b1 : (a0_1 != 0) = true := bne_iff_ne.mpr c16
                  have H' := Aside0.mk H
                  clear H
                  have hcz20_0 : w4.cell? ⟨gb167, 0, none⟩ = some (.int .i64 a0_0) := (blk_cell BK167.out 0).trans rfl
                  have hcz20_1 : w4.cell? ⟨gb167, 1, none⟩ = some (.int .i64 a0_1) := (blk_cell BK167.out 1).trans rfl
                  have hcz20_2 : w4.cell? ⟨gb167, 2, none⟩ = some (.int .i64 a0_2) := (blk_cell BK167.out 2).trans rfl
                  go_wp2
                  go_meet
                  case rel => exact ⟨_, (true), (by first | rfl | (simp; done) | (simp [*]; done)), H', ⟨by first | omega | exact Nat.le_refl _⟩, ⟨by (with_reducible repeat (first | refine blk_drewN ?_ _ | refine blk_drew ?_ | refine blk_alloc ?_ _)); exact BK167.out⟩, ⟨by repeat (first | (with_reducible first | exact HB.out | apply below_alloc | apply pw_below_drewN | apply below_drew1 | refine below_set ?_ GE167.out) | exact HB.out)⟩⟩
              · rw [if_neg c15] at H
                have c15b0 : decide (t169 < 1) = false := decide_eq_false c15
                clear c15
                by_cases c21 : t169 < 2
                · rw [if_pos c21] at H
                  have c21b0 : decide (t169 < 2) = true := decide_eq_true c21
                  clear c21
                  have H' := Aside0.mk H
                  clear H
                  have hcz22_0 : w4.cell? ⟨gb167, 0, none⟩ = some (.int .i64 a0_0) := (blk_cell BK167.out 0).trans rfl
                  have hcz22_1 : w4.cell? ⟨gb167, 1, none⟩ = some (.int .i64 a0_1) := (blk_cell BK167.out 1).trans rfl
                  have hcz22_2 : w4.cell? ⟨gb167, 2, none⟩ = some (.int .i64 a0_2) := (blk_cell BK167.out 2).trans rfl
                  go_wp2
                  go_meet
                  case rel => exact ⟨_, ((a0_2 != 0)), (by first | rfl | (simp; done) | (simp [*]; done)), H', ⟨by first | omega | exact Nat.le_refl _⟩, ⟨by (with_reducible repeat (first | refine blk_drewN ?_ _ | refine blk_drew ?_ | refine blk_alloc ?_ _)); exact BK167.out⟩, ⟨by repeat (first | (with_reducible first | exact HB.out | apply below_alloc | apply pw_below_drewN | apply below_drew1 | refine below_set ?_ GE167.out) | exact HB.out)⟩⟩
                · rw [if_neg c21] at H
                  have c21b0 : decide (t169 < 2) = false := decide_eq_false c21
                  clear c21
                  have H' := Aside0.mk H
                  clear H
                  have hcz23_0 : w4.cell? ⟨gb167, 0, none⟩ = some (.int .i64 a0_0) := (blk_cell BK167.out 0).trans rfl
                  have hcz23_1 : w4.cell? ⟨gb167, 1, none⟩ = some (.int .i64 a0_1) := (blk_cell BK167.out 1).trans rfl
                  have hcz23_2 : w4.cell? ⟨gb167, 2, none⟩ = some (.int .i64 a0_2) := (blk_cell BK167.out 2).trans rfl
                  go_wp2
                  go_meet
                  case rel => exact ⟨_, (false), (by first | rfl | (simp; done) | (simp [*]; done)), H', ⟨by first | omega | exact Nat.le_refl _⟩, ⟨by (with_reducible repeat (first | refine blk_drewN ?_ _ | refine blk_drew ?_ | refine blk_alloc ?_ _)); exact BK167.out⟩, ⟨by repeat (first | (with_reducible first | exact HB.out | apply below_alloc | apply pw_below_drewN | apply below_drew1 | refine below_set ?_ GE167.out) | exact HB.out)⟩⟩
  case rest =>
    clear HC3
    try clear c1
    try clear c2
    try clear p2
    try clear c6
    try clear c6b0
    try clear c7
    try clear c7b0
    try clear c9
    try clear c9b0
    try clear c11
    try clear c11b0
    try clear c13
    try clear c13b0
    try clear c15
    try clear c15b0
    try clear c16
    try clear c16b0
    try clear c16b1
    try clear c17
    try clear c17b0
    try clear c21
    try clear c21b0
    try clear hcz10_0
    try clear hcz10_1
    try clear hcz10_2
    try clear hcz12_0
    try clear hcz12_1
    try clear hcz12_2
    try clear hcz14_0
    try clear hcz14_1
    try clear hcz14_2
    try clear hcz18_0
    try clear hcz18_1
    try clear hcz18_2
    try clear hcz19_0
    try clear hcz19_1
    try clear hcz19_2
    try clear hcz20_0
    try clear hcz20_1
    try clear hcz20_2
    try clear hcz22_0
    try clear hcz22_1
    try clear hcz22_2
    try clear hcz23_0
    try clear hcz23_1
    try clear hcz23_2
    try clear hcz5_0
    try clear hcz5_1
    try clear hcz5_2
    try clear hcz8_0
    try clear hcz8_1
    try clear hcz8_2
    obtain ⟨kq, x51_2, rfl, HA, HJ2, BK167, HB⟩ := hcut
    cases kq with
    | zero => exact absurd HA.out (by simp [impl_CmdText.j0])
    | succ kj2 =>
      have H := HA.out
      clear HA
      simp only [impl_CmdText.j0] at H
      by_cases c24 : x51_2 = true
      · subst c24
        have H1 : (some ((⟨#[]⟩ : ByteArray), false)) = some (r1, r2) := by rw [if_pos rfl] at H; exact H
        clear H
        have H := H1
        clear H1
        simp only [Option.some.injEq, Prod.mk.injEq] at H
        obtain ⟨rfl, rfl⟩ := H
        go_wp2
        go_ret2
        exact ⟨by first | rfl | (simp [errW_none, errW_some] <;> rfl) | (simp [*, errW_none, errW_some] <;> rfl), by repeat (first | (with_reducible first | exact HB.out | apply below_alloc | apply pw_below_drewN | apply below_drew1 | refine below_set ?_ GE167.out) | exact HB.out)⟩
      · replace c24 := Bool.eq_false_iff.mpr c24
        subst c24
        have H1 : (if t169 > 0 then ((impl_Decimal.f a0_1).bind fun t170 => (if 1 + t170.size ≤ 9223372036854775807 then (if t168.size + ((⟨#[32]⟩ : ByteArray) ++ t170).size ≤ 9223372036854775807 then (if t169 > 1 then ((impl_Decimal.f a0_2).bind fun t171 => (if 1 + t171.size ≤ 9223372036854775807 then (if (t168 ++ ((⟨#[32]⟩ : ByteArray) ++ t170)).size + ((⟨#[32]⟩ : ByteArray) ++ t171).size ≤ 9223372036854775807 then (some ((t168 ++ ((⟨#[32]⟩ : ByteArray) ++ t170)) ++ ((⟨#[32]⟩ : ByteArray) ++ t171), true)) else (none)) else (none))) else (some (t168 ++ ((⟨#[32]⟩ : ByteArray) ++ t170), true))) else (none)) else (none))) else (if t169 > 1 then ((impl_Decimal.f a0_2).bind fun t172 => (if 1 + t172.size ≤ 9223372036854775807 then (if t168.size + ((⟨#[32]⟩ : ByteArray) ++ t172).size ≤ 9223372036854775807 then (some (t168 ++ ((⟨#[32]⟩ : ByteArray) ++ t172), true)) else (none)) else (none))) else (some (t168, true)))) = some (r1, r2) := by rw [if_neg (show ¬ (false = true) by decide)] at H; exact H
        clear H
        have H := H1
        clear H1
        by_cases c25 : t169 > 0
        · rw [if_pos c25] at H
          have c25b0 : decide (0 < t169) = true := decide_eq_true c25
          clear c25
          replace H := Option.bind_eq_some_iff.mp H
          obtain ⟨t170, A260, H⟩ := H
          replace H : (if 1 + t170.size ≤ 9223372036854775807 then (if t168.size + ((⟨#[32]⟩ : ByteArray) ++ t170).size ≤ 9223372036854775807 then (if t169 > 1 then ((impl_Decimal.f a0_2).bind fun t171 => (if 1 + t171.size ≤ 9223372036854775807 then (if (t168 ++ ((⟨#[32]⟩ : ByteArray) ++ t170)).size + ((⟨#[32]⟩ : ByteArray) ++ t171).size ≤ 9223372036854775807 then (some ((t168 ++ ((⟨#[32]⟩ : ByteArray) ++ t170)) ++ ((⟨#[32]⟩ : ByteArray) ++ t171), true)) else (none)) else (none))) else (some (t168 ++ ((⟨#[32]⟩ : ByteArray) ++ t170), true))) else (none)) else (none)) = some (r1, r2) := H
          have A26 := Aside0.mk A260
          clear A260
          by_cases c27 : 1 + t170.size ≤ 9223372036854775807
          · rw [if_pos c27] at H
            have c27b0 := eq_true c27
            have c27b1 : decide (1 + t170.size ≤ 9223372036854775807) = true := decide_eq_true c27
            try have c27b2 : (9223372036854775807 < 1 + t170.size) = False := eq_false (Nat.not_lt.2 c27)
            by_cases c28 : t168.size + ((⟨#[32]⟩ : ByteArray) ++ t170).size ≤ 9223372036854775807
            · rw [if_pos c28] at H
              have c28b0 := eq_true c28
              have c28b1 : decide (t168.size + ((⟨#[32]⟩ : ByteArray) ++ t170).size ≤ 9223372036854775807) = true := decide_eq_true c28
              try have c28b2 : (9223372036854775807 < t168.size + ((⟨#[32]⟩ : ByteArray) ++ t170).size) = False := eq_false (Nat.not_lt.2 c28)
              try have c28b5 : (9223372036854775807 < t168.size + (1 + t170.size)) = False := eq_false (Nat.not_lt.2 (by have h1_ := c28; simp only [ByteArray.size_append] at h1_; exact h1_))
              by_cases c29 : t169 > 1
              · rw [if_pos c29] at H
                have c29b0 : decide (1 < t169) = true := decide_eq_true c29
                clear c29
                replace H := Option.bind_eq_some_iff.mp H
                obtain ⟨t171, A300, H⟩ := H
                replace H : (if 1 + t171.size ≤ 9223372036854775807 then (if (t168 ++ ((⟨#[32]⟩ : ByteArray) ++ t170)).size + ((⟨#[32]⟩ : ByteArray) ++ t171).size ≤ 9223372036854775807 then (some ((t168 ++ ((⟨#[32]⟩ : ByteArray) ++ t170)) ++ ((⟨#[32]⟩ : ByteArray) ++ t171), true)) else (none)) else (none)) = some (r1, r2) := H
                have A30 := Aside0.mk A300
                clear A300
                by_cases c31 : 1 + t171.size ≤ 9223372036854775807
                · rw [if_pos c31] at H
                  have c31b0 := eq_true c31
                  have c31b1 : decide (1 + t171.size ≤ 9223372036854775807) = true := decide_eq_true c31
                  try have c31b2 : (9223372036854775807 < 1 + t171.size) = False := eq_false (Nat.not_lt.2 c31)
                  by_cases c32 : (t168 ++ ((⟨#[32]⟩ : ByteArray) ++ t170)).size + ((⟨#[32]⟩ : ByteArray) ++ t171).size ≤ 9223372036854775807
                  · rw [if_pos c32] at H
                    have c32b0 := eq_true c32
                    have c32b1 : decide ((t168 ++ ((⟨#[32]⟩ : ByteArray) ++ t170)).size + ((⟨#[32]⟩ : ByteArray) ++ t171).size ≤ 9223372036854775807) = true := decide_eq_true c32
                    try have c32b2 : (9223372036854775807 < (t168 ++ ((⟨#[32]⟩ : ByteArray) ++ t170)).size + ((⟨#[32]⟩ : ByteArray) ++ t171).size) = False := eq_false (Nat.not_lt.2 c32)
                    try have c32b5 : (9223372036854775807 < t168.size + (1 + t170.size) + (1 + t171.size)) = False := eq_false (Nat.not_lt.2 (by have h1_ := c32; simp only [ByteArray.size_append] at h1_; exact h1_))
                    simp only [Option.some.injEq, Prod.mk.injEq] at H
                    obtain ⟨rfl, rfl⟩ := H
                    have hcz33_0 : wc.cell? ⟨gb167, 0, none⟩ = some (.int .i64 a0_0) := (blk_cell BK167.out 0).trans rfl
                    have hcz33_1 : wc.cell? ⟨gb167, 1, none⟩ = some (.int .i64 a0_1) := (blk_cell BK167.out 1).trans rfl
                    have hcz33_2 : wc.cell? ⟨gb167, 2, none⟩ = some (.int .i64 a0_2) := (blk_cell BK167.out 2).trans rfl
                    go_wp2_with (first | ((with_reducible refine gate_callee (f := 28) rfl ?_); refine goesL_ (some 57) rfl rfl Tryd.func28 (by kernel_rfl) rfl #[.int .i64 a0_1] rfl (by (try simp only [List.map_toArray, List.map_cons, List.map_nil]); first | done | rfl | (simp only [List.length_drop, List.length_take]; rfl)) ?_; (with_reducible refine (impl_Decimal.calls a0_1 t170 _ ?side1 A26.out).mono ?_); (case side1 => exact Go.Proofs.YtaddjeoncbmohaaDoor.MyDoor.Door.go HT.out (by repeat (first | (with_reducible first | exact HB.out | apply below_alloc | apply pw_below_drewN | apply below_drew1 | refine below_set ?_ GE167.out) | exact HB.out))); rintro e w34 ⟨rfl, hb⟩; refine ⟨_, rfl, ?_⟩; have n0_ := Aside0.mk (blk_below (g := gb167) (by first | (with_reducible exact BK167.out) | (with_reducible exact blk_drewN BK167.out _) | (with_reducible exact blk_drew BK167.out) | ((with_reducible repeat (first | refine blk_drewN ?_ _ | refine blk_drew ?_ | refine blk_alloc ?_ _)); exact BK167.out)) hb); have n1_ := Aside0.mk (below_step (by repeat (first | (with_reducible first | exact HB.out | apply below_alloc | apply pw_below_drewN | apply below_drew1 | refine below_set ?_ GE167.out) | exact HB.out)) hb); clear BK167; clear HB; have BK167 := n0_; have HB := n1_; clear n0_ n1_; (try clear hb); (try clear hb2); (try clear hk); (try clear hi); have hcz35_0 : w34.cell? ⟨gb167, 0, none⟩ = some (.int .i64 a0_0) := (blk_cell BK167.out 0).trans rfl; have hcz35_1 : w34.cell? ⟨gb167, 1, none⟩ = some (.int .i64 a0_1) := (blk_cell BK167.out 1).trans rfl; have hcz35_2 : w34.cell? ⟨gb167, 2, none⟩ = some (.int .i64 a0_2) := (blk_cell BK167.out 2).trans rfl) | ((with_reducible refine gate_callee (f := 28) rfl ?_); refine goesL_ (some 65) rfl rfl Tryd.func28 (by kernel_rfl) rfl #[.int .i64 a0_2] rfl (by (try simp only [List.map_toArray, List.map_cons, List.map_nil]); first | done | rfl | (simp only [List.length_drop, List.length_take]; rfl)) ?_; (with_reducible refine (impl_Decimal.calls a0_2 t171 _ ?side1 A30.out).mono ?_); (case side1 => exact Go.Proofs.YtaddjeoncbmohaaDoor.MyDoor.Door.go HT.out (by repeat (first | (with_reducible first | exact HB.out | apply below_alloc | apply pw_below_drewN | apply below_drew1 | refine below_set ?_ GE167.out) | exact HB.out))); rintro e w36 ⟨rfl, hb⟩; refine ⟨_, rfl, ?_⟩; have n0_ := Aside0.mk (blk_below (g := gb167) (by first | (with_reducible exact BK167.out) | (with_reducible exact blk_drewN BK167.out _) | (with_reducible exact blk_drew BK167.out) | ((with_reducible repeat (first | refine blk_drewN ?_ _ | refine blk_drew ?_ | refine blk_alloc ?_ _)); exact BK167.out)) hb); have n1_ := Aside0.mk (below_step (by repeat (first | (with_reducible first | exact HB.out | apply below_alloc | apply pw_below_drewN | apply below_drew1 | refine below_set ?_ GE167.out) | exact HB.out)) hb); clear BK167; clear HB; have BK167 := n0_; have HB := n1_; clear n0_ n1_; (try clear hb); (try clear hb2); (try clear hk); (try clear hi)))
                    go_ret2
                    exact ⟨by first | rfl | (simp [errW_none, errW_some] <;> rfl) | (simp [*, errW_none, errW_some] <;> rfl), by repeat (first | (with_reducible first | exact HB.out | apply below_alloc | apply pw_below_drewN | apply below_drew1 | refine below_set ?_ GE167.out) | exact HB.out)⟩
                  · rw [if_neg c32] at H
                    exact absurd H (by simp)
                · rw [if_neg c31] at H
                  exact absurd H (by simp)
              · rw [if_neg c29] at H
                have c29b0 : decide (1 < t169) = false := decide_eq_false c29
                clear c29
                simp only [Option.some.injEq, Prod.mk.injEq] at H
                obtain ⟨rfl, rfl⟩ := H
                have hcz37_0 : wc.cell? ⟨gb167, 0, none⟩ = some (.int .i64 a0_0) := (blk_cell BK167.out 0).trans rfl
                have hcz37_1 : wc.cell? ⟨gb167, 1, none⟩ = some (.int .i64 a0_1) := (blk_cell BK167.out 1).trans rfl
                have hcz37_2 : wc.cell? ⟨gb167, 2, none⟩ = some (.int .i64 a0_2) := (blk_cell BK167.out 2).trans rfl
                go_wp2_with (first | ((with_reducible refine gate_callee (f := 28) rfl ?_); refine goesL_ (some 57) rfl rfl Tryd.func28 (by kernel_rfl) rfl #[.int .i64 a0_1] rfl (by (try simp only [List.map_toArray, List.map_cons, List.map_nil]); first | done | rfl | (simp only [List.length_drop, List.length_take]; rfl)) ?_; (with_reducible refine (impl_Decimal.calls a0_1 t170 _ ?side1 A26.out).mono ?_); (case side1 => exact Go.Proofs.YtaddjeoncbmohaaDoor.MyDoor.Door.go HT.out (by repeat (first | (with_reducible first | exact HB.out | apply below_alloc | apply pw_below_drewN | apply below_drew1 | refine below_set ?_ GE167.out) | exact HB.out))); rintro e w38 ⟨rfl, hb⟩; refine ⟨_, rfl, ?_⟩; have n0_ := Aside0.mk (blk_below (g := gb167) (by first | (with_reducible exact BK167.out) | (with_reducible exact blk_drewN BK167.out _) | (with_reducible exact blk_drew BK167.out) | ((with_reducible repeat (first | refine blk_drewN ?_ _ | refine blk_drew ?_ | refine blk_alloc ?_ _)); exact BK167.out)) hb); have n1_ := Aside0.mk (below_step (by repeat (first | (with_reducible first | exact HB.out | apply below_alloc | apply pw_below_drewN | apply below_drew1 | refine below_set ?_ GE167.out) | exact HB.out)) hb); clear BK167; clear HB; have BK167 := n0_; have HB := n1_; clear n0_ n1_; (try clear hb); (try clear hb2); (try clear hk); (try clear hi)))
                go_ret2
                exact ⟨by first | rfl | (simp [errW_none, errW_some] <;> rfl) | (simp [*, errW_none, errW_some] <;> rfl), by repeat (first | (with_reducible first | exact HB.out | apply below_alloc | apply pw_below_drewN | apply below_drew1 | refine below_set ?_ GE167.out) | exact HB.out)⟩
            · rw [if_neg c28] at H
              exact absurd H (by simp)
          · rw [if_neg c27] at H
            exact absurd H (by simp)
        · rw [if_neg c25] at H
          have c25b0 : decide (0 < t169) = false := decide_eq_false c25
          clear c25
          by_cases c39 : t169 > 1
          · rw [if_pos c39] at H
            have c39b0 : decide (1 < t169) = true := decide_eq_true c39
            clear c39
            replace H := Option.bind_eq_some_iff.mp H
            obtain ⟨t172, A400, H⟩ := H
            replace H : (if 1 + t172.size ≤ 9223372036854775807 then (if t168.size + ((⟨#[32]⟩ : ByteArray) ++ t172).size ≤ 9223372036854775807 then (some (t168 ++ ((⟨#[32]⟩ : ByteArray) ++ t172), true)) else (none)) else (none)) = some (r1, r2) := H
            have A40 := Aside0.mk A400
            clear A400
            by_cases c41 : 1 + t172.size ≤ 9223372036854775807
            · rw [if_pos c41] at H
              have c41b0 := eq_true c41
              have c41b1 : decide (1 + t172.size ≤ 9223372036854775807) = true := decide_eq_true c41
              try have c41b2 : (9223372036854775807 < 1 + t172.size) = False := eq_false (Nat.not_lt.2 c41)
              by_cases c42 : t168.size + ((⟨#[32]⟩ : ByteArray) ++ t172).size ≤ 9223372036854775807
              · rw [if_pos c42] at H
                have c42b0 := eq_true c42
                have c42b1 : decide (t168.size + ((⟨#[32]⟩ : ByteArray) ++ t172).size ≤ 9223372036854775807) = true := decide_eq_true c42
                try have c42b2 : (9223372036854775807 < t168.size + ((⟨#[32]⟩ : ByteArray) ++ t172).size) = False := eq_false (Nat.not_lt.2 c42)
                try have c42b5 : (9223372036854775807 < t168.size + (1 + t172.size)) = False := eq_false (Nat.not_lt.2 (by have h1_ := c42; simp only [ByteArray.size_append] at h1_; exact h1_))
                simp only [Option.some.injEq, Prod.mk.injEq] at H
                obtain ⟨rfl, rfl⟩ := H
                have hcz43_0 : wc.cell? ⟨gb167, 0, none⟩ = some (.int .i64 a0_0) := (blk_cell BK167.out 0).trans rfl
                have hcz43_1 : wc.cell? ⟨gb167, 1, none⟩ = some (.int .i64 a0_1) := (blk_cell BK167.out 1).trans rfl
                have hcz43_2 : wc.cell? ⟨gb167, 2, none⟩ = some (.int .i64 a0_2) := (blk_cell BK167.out 2).trans rfl
                go_wp2_with (first | ((with_reducible refine gate_callee (f := 28) rfl ?_); refine goesL_ (some 65) rfl rfl Tryd.func28 (by kernel_rfl) rfl #[.int .i64 a0_2] rfl (by (try simp only [List.map_toArray, List.map_cons, List.map_nil]); first | done | rfl | (simp only [List.length_drop, List.length_take]; rfl)) ?_; (with_reducible refine (impl_Decimal.calls a0_2 t172 _ ?side1 A40.out).mono ?_); (case side1 => exact Go.Proofs.YtaddjeoncbmohaaDoor.MyDoor.Door.go HT.out (by repeat (first | (with_reducible first | exact HB.out | apply below_alloc | apply pw_below_drewN | apply below_drew1 | refine below_set ?_ GE167.out) | exact HB.out))); rintro e w44 ⟨rfl, hb⟩; refine ⟨_, rfl, ?_⟩; have n0_ := Aside0.mk (blk_below (g := gb167) (by first | (with_reducible exact BK167.out) | (with_reducible exact blk_drewN BK167.out _) | (with_reducible exact blk_drew BK167.out) | ((with_reducible repeat (first | refine blk_drewN ?_ _ | refine blk_drew ?_ | refine blk_alloc ?_ _)); exact BK167.out)) hb); have n1_ := Aside0.mk (below_step (by repeat (first | (with_reducible first | exact HB.out | apply below_alloc | apply pw_below_drewN | apply below_drew1 | refine below_set ?_ GE167.out) | exact HB.out)) hb); clear BK167; clear HB; have BK167 := n0_; have HB := n1_; clear n0_ n1_; (try clear hb); (try clear hb2); (try clear hk); (try clear hi)))
                go_ret2
                exact ⟨by first | rfl | (simp [errW_none, errW_some] <;> rfl) | (simp [*, errW_none, errW_some] <;> rfl), by repeat (first | (with_reducible first | exact HB.out | apply below_alloc | apply pw_below_drewN | apply below_drew1 | refine below_set ?_ GE167.out) | exact HB.out)⟩
              · rw [if_neg c42] at H
                exact absurd H (by simp)
            · rw [if_neg c41] at H
              exact absurd H (by simp)
          · rw [if_neg c39] at H
            have c39b0 : decide (1 < t169) = false := decide_eq_false c39
            clear c39
            simp only [Option.some.injEq, Prod.mk.injEq] at H
            obtain ⟨rfl, rfl⟩ := H
            go_wp2
            go_ret2
            exact ⟨by first | rfl | (simp [errW_none, errW_some] <;> rfl) | (simp [*, errW_none, errW_some] <;> rfl), by repeat (first | (with_reducible first | exact HB.out | apply below_alloc | apply pw_below_drewN | apply below_drew1 | refine below_set ?_ GE167.out) | exact HB.out)⟩

end Go.Proofs.YtaddjeoncbmohaaDoor.MFnCmds
