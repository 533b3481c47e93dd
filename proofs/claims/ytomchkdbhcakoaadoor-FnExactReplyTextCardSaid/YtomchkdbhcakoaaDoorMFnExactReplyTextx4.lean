/- Made by a program of this session (out of the kit's print, with hand-made contracts): what each Go function that the law reaches computes, and that the machine's call does so. -/
import Derived.Test.YtomchkdbhcakoaaDoorMFnExactReplyTextx0
import Derived.Test.YtomchkdbhcakoaaDoorMFnExactReplyTextx3
namespace Go.Proofs.YtomchkdbhcakoaaDoor.MFnExactReplyText
open Go.RowKit Go.Proofs.YtomchkdbhcakoaaDoorW.PrintWords Go.Proofs.YtomchkdbhcakoaaDoorW.PrintLast Go.Proofs.YtomchkdbhcakoaaDoorW.PrintMore
attribute [local go_sem] max2_int min2_int max_two min_two max_three min_three max_four min_four   -- for this text's walks alone
set_option linter.unusedVariables false
set_option linter.unusedSimpArgs false

/-! ### impl_ReplyText: function 9 -/
mutual
def impl_ReplyText.j0 : Nat → ByteArray → Int → Int → List (S49) → Option (ByteArray)
  | 0, _, _, _, _ => none
  | k + 1, x3, x129000, x129001, x129002 => impl_ReplyText.l0 k x3 x129002 (x129002.length : Int) 0
def impl_ReplyText.l0 : Nat → ByteArray → List (S49) → Int → Int → Option (ByteArray)
  | 0, _, _, _, _ => none
  | k + 1, x3, x20, x21, x22 => if x22 < x21 then (if 0 ≤ x22 then (if x22 < (x20.length : Int) then ((impl_Decimal.f ((rd_T49 x20 x22).f0)).bind fun t133 => (if 4 + t133.size ≤ 9223372036854775807 then (if ((⟨#[32, 103, 111, 32]⟩ : ByteArray) ++ t133).size + 1 ≤ 9223372036854775807 then ((impl_Decimal.f ((rd_T49 x20 x22).f2)).bind fun t134 => (if (((⟨#[32, 103, 111, 32]⟩ : ByteArray) ++ t133) ++ (⟨#[32]⟩ : ByteArray)).size + t134.size ≤ 9223372036854775807 then (if x3.size + ((((⟨#[32, 103, 111, 32]⟩ : ByteArray) ++ t133) ++ (⟨#[32]⟩ : ByteArray)) ++ t134).size ≤ 9223372036854775807 then (impl_ReplyText.l0 k (x3 ++ ((((⟨#[32, 103, 111, 32]⟩ : ByteArray) ++ t133) ++ (⟨#[32]⟩ : ByteArray)) ++ t134)) x20 x21 (wrap64 (x22 + 1))) else (none)) else (none))) else (none)) else (none))) else (none)) else (none)) else (some x3)
end
def impl_ReplyText.f (k : Nat) (a0_0 : Int) (a0_1 : Int) (l0_2 : List (S49)) : Option (ByteArray) := (impl_Decimal.f a0_0).bind fun t129 => (if 5 + t129.size ≤ 9223372036854775807 then (if a0_1 = 0 then (impl_ReplyText.j0 k ((⟨#[99, 111, 100, 101, 32]⟩ : ByteArray) ++ t129) a0_0 a0_1 l0_2) else ((impl_Decimal.f a0_1).bind fun t130 => (if 8 + t130.size ≤ 9223372036854775807 then (if ((⟨#[99, 111, 100, 101, 32]⟩ : ByteArray) ++ t129).size + ((⟨#[32, 115, 116, 97, 116, 117, 115, 32]⟩ : ByteArray) ++ t130).size ≤ 9223372036854775807 then (impl_ReplyText.j0 k (((⟨#[99, 111, 100, 101, 32]⟩ : ByteArray) ++ t129) ++ ((⟨#[32, 115, 116, 97, 116, 117, 115, 32]⟩ : ByteArray) ++ t130)) a0_0 a0_1 l0_2) else (none)) else (none)))) else (none))
theorem impl_ReplyText.mono_l : ∀ k, (∀ y0 y1 y2 y3, LeO (impl_ReplyText.j0 k y0 y1 y2 y3) (impl_ReplyText.j0 (k + 1) y0 y1 y2 y3)) ∧ (∀ y0 y1 y2 y3, LeO (impl_ReplyText.l0 k y0 y1 y2 y3) (impl_ReplyText.l0 (k + 1) y0 y1 y2 y3))
  | 0 => ⟨fun _ _ _ _ r h => by simp [impl_ReplyText.j0] at h, fun _ _ _ _ r h => by simp [impl_ReplyText.l0] at h⟩
  | k + 1 => by
    obtain ⟨ih0, ih1⟩ := impl_ReplyText.mono_l k
    refine ⟨?_, ?_⟩
    · intro y0 y1 y2 y3
      unfold impl_ReplyText.j0
      repeat' first
      | (with_reducible exact ih0 _ _ _ _)
      | (with_reducible exact ih1 _ _ _ _)
      | (with_reducible exact LeO.refl _)
      | (with_reducible exact LeO.none _)
      | (with_reducible refine LeO.ite ?_ ?_)
      | (with_reducible refine LeO.bind ?_ (fun _ => ?_))
      | exact ih0 _ _ _ _
      | exact ih1 _ _ _ _
      | exact LeO.none _
      | refine LeO.ite ?_ ?_
      | refine LeO.bind ?_ (fun _ => ?_)
    · intro y0 y1 y2 y3
      unfold impl_ReplyText.l0
      repeat' first
      | (with_reducible exact ih0 _ _ _ _)
      | (with_reducible exact ih1 _ _ _ _)
      | (with_reducible exact LeO.refl _)
      | (with_reducible exact LeO.none _)
      | (with_reducible refine LeO.ite ?_ ?_)
      | (with_reducible refine LeO.bind ?_ (fun _ => ?_))
      | exact ih0 _ _ _ _
      | exact ih1 _ _ _ _
      | exact LeO.none _
      | refine LeO.ite ?_ ?_
      | refine LeO.bind ?_ (fun _ => ?_)
theorem impl_ReplyText.mono : ∀ a0 a1 a2 k, LeO (impl_ReplyText.f k a0 a1 a2) (impl_ReplyText.f (k + 1) a0 a1 a2) := by
  intro a0 a1 a2 k
  obtain ⟨ih0, ih1⟩ := impl_ReplyText.mono_l k
  unfold impl_ReplyText.f
  repeat' first
      | (with_reducible exact ih0 _ _ _ _)
      | (with_reducible exact ih1 _ _ _ _)
      | (with_reducible exact LeO.refl _)
      | (with_reducible exact LeO.none _)
      | (with_reducible refine LeO.ite ?_ ?_)
      | (with_reducible refine LeO.bind ?_ (fun _ => ?_))
      | exact ih0 _ _ _ _
      | exact ih1 _ _ _ _
      | exact LeO.none _
      | refine LeO.ite ?_ ?_
      | refine LeO.bind ?_ (fun _ => ?_)
def impl_ReplyText.T7 : Bool × List (List Nat × List Nat) := (true, [([], []), ([], []), ([1], [1]), ([2], [2]), ([3], [3]), ([4], [4]), ([], []), ([6], [6]), ([7, 3], [7]), ([5, 8], [5, 8]), ([0, 9], [0, 9]), ([10, 8, 0, 1, 2, 3, 4, 5, 6, 7, 8, 9, 10], [0, 10])])
def impl_ReplyText.B7 : List Nat := [0, 0, 2, 6, 14, 30, 0, 64, 206, 510, 1023, 2047]
theorem impl_ReplyText.tab7 : rtab .any (opsOf Tryd.f9 7) = impl_ReplyText.T7 := by kernel_rfl
theorem impl_ReplyText.bits7 : waitsOk impl_ReplyText.T7.2 impl_ReplyText.B7 = true := by kernel_rfl
set_option maxHeartbeats 8000000 in
set_option maxRecDepth 100000 in
theorem impl_ReplyText.calls (k : Nat) (a0_0 : Int) (a0_1 : Int) (A0_2 : Option Addr) (c0_2 : Nat) (l0_2 : List (S49)) (r : ByteArray) (w : World) (hr0_2 : Kd.C k49 w A0_2 l0_2.length l0_2) (hc0_2 : l0_2.length ≤ c0_2) (ht : Go.Proofs.YtomchkdbhcakoaaDoor.MyDoor.Door false w) (h : impl_ReplyText.f k a0_0 a0_1 l0_2 = some r) :
    Calls Tryd.prog 9 #[.agg #[.int .i64 a0_0, .int .i64 a0_1, .slice A0_2 l0_2.length c0_2]] w fun e w' => e = .returned (.string r) ∧ Below w.heap.size w w' := by
  have hu29 := Tryd.underlying29
  have hu49 := Tryd.underlying49
  have HR0_2 := Aside0.mk hr0_2
  have HC0_2 := Aside0.mk hc0_2
  clear hr0_2 hc0_2
  have HB := Aside0.mk (Below.refl w.heap.size w)
  have HT := Aside0.mk ht
  clear ht
  have H : ((impl_Decimal.f a0_0).bind fun t129 => (if 5 + t129.size ≤ 9223372036854775807 then (if a0_1 = 0 then (impl_ReplyText.j0 k ((⟨#[99, 111, 100, 101, 32]⟩ : ByteArray) ++ t129) a0_0 a0_1 l0_2) else ((impl_Decimal.f a0_1).bind fun t130 => (if 8 + t130.size ≤ 9223372036854775807 then (if ((⟨#[99, 111, 100, 101, 32]⟩ : ByteArray) ++ t129).size + ((⟨#[32, 115, 116, 97, 116, 117, 115, 32]⟩ : ByteArray) ++ t130).size ≤ 9223372036854775807 then (impl_ReplyText.j0 k (((⟨#[99, 111, 100, 101, 32]⟩ : ByteArray) ++ t129) ++ ((⟨#[32, 115, 116, 97, 116, 117, 115, 32]⟩ : ByteArray) ++ t130)) a0_0 a0_1 l0_2) else (none)) else (none)))) else (none))) = some r := h
  clear h
  replace H := Option.bind_eq_some_iff.mp H
  obtain ⟨t129, A20, H⟩ := H
  replace H : (if 5 + t129.size ≤ 9223372036854775807 then (if a0_1 = 0 then (impl_ReplyText.j0 k ((⟨#[99, 111, 100, 101, 32]⟩ : ByteArray) ++ t129) a0_0 a0_1 l0_2) else ((impl_Decimal.f a0_1).bind fun t130 => (if 8 + t130.size ≤ 9223372036854775807 then (if ((⟨#[99, 111, 100, 101, 32]⟩ : ByteArray) ++ t129).size + ((⟨#[32, 115, 116, 97, 116, 117, 115, 32]⟩ : ByteArray) ++ t130).size ≤ 9223372036854775807 then (impl_ReplyText.j0 k (((⟨#[99, 111, 100, 101, 32]⟩ : ByteArray) ++ t129) ++ ((⟨#[32, 115, 116, 97, 116, 117, 115, 32]⟩ : ByteArray) ++ t130)) a0_0 a0_1 l0_2) else (none)) else (none)))) else (none)) = some r := H
  have A2 := Aside0.mk A20
  clear A20
  by_cases c3 : 5 + t129.size ≤ 9223372036854775807
  · rw [if_pos c3] at H
    have c3b0 := eq_true c3
    have c3b1 : decide (5 + t129.size ≤ 9223372036854775807) = true := decide_eq_true c3
    try have c3b2 : (9223372036854775807 < 5 + t129.size) = False := eq_false (Nat.not_lt.2 c3)
    have HC4 := Aside0.mk H
    clear H
    go_enter Tryd.func9, Tryd.ntmps9
    go_upto_if 12 with (first | ((with_reducible refine gate_dst (N := 1) rfl ?_); refine box_event ?hg (N := 1) ?hd (cs := #[.int .i64 a0_0, .int .i64 a0_1, .slice A0_2 l0_2.length c0_2]) (t := 29) ?hr ?_; (case hd => rfl); (case hg => rfl); (case hr => first | (go_simp; done) | (go_simp; rfl)); intro gb128 hg w5 hbox hb; have n0_ := Aside0.mk (below_step (by repeat (first | (with_reducible first | exact HB.out | apply below_alloc | apply pw_below_drewN | apply below_drew1) | exact HB.out)) hb); have n1_ := Aside0.mk (hbox); have n2_ := Aside0.mk ((by rw [hg]; exact (below_size (by repeat (first | (with_reducible first | exact HB.out | apply below_alloc | apply pw_below_drewN | apply below_drew1) | exact HB.out))) : w.heap.size ≤ gb128)); have n3_ := n2_; clear HB; have HB := n0_; have BK128 := n1_; have GW128 := n2_; have GE128 := n3_; clear n0_ n1_ n2_ n3_; clear hb hbox hg; have hcz6_0 : w5.cell? ⟨gb128, 0, none⟩ = some (.int .i64 a0_0) := (blk_cell BK128.out 0).trans rfl; have hcz6_1 : w5.cell? ⟨gb128, 1, none⟩ = some (.int .i64 a0_1) := (blk_cell BK128.out 1).trans rfl; have hcz6_2 : w5.cell? ⟨gb128, 2, none⟩ = some (.slice A0_2 l0_2.length c0_2) := (blk_cell BK128.out 2).trans rfl) | ((with_reducible refine gate_callee (f := 21) rfl ?_); refine goesL_ (some 8) rfl rfl Tryd.func21 (by kernel_rfl) rfl #[.int .i64 a0_0] rfl (by (try simp only [List.map_toArray, List.map_cons, List.map_nil]); first | done | rfl | (simp only [List.length_drop, List.length_take]; rfl)) ?_; (with_reducible refine (impl_Decimal.calls a0_0 t129 _ ?side1 A2.out).mono ?_); (case side1 => exact Go.Proofs.YtomchkdbhcakoaaDoor.MyDoor.Door.go HT.out (by repeat (first | (with_reducible first | exact HB.out | apply below_alloc | apply pw_below_drewN | apply below_drew1 | refine below_set ?_ GE128.out) | exact HB.out))); rintro e w7 ⟨rfl, hb⟩; refine ⟨_, rfl, ?_⟩; have n0_ := Aside0.mk (blk_below (g := gb128) (by first | (with_reducible exact BK128.out) | (with_reducible exact blk_drewN BK128.out _) | (with_reducible exact blk_drew BK128.out) | ((with_reducible repeat (first | refine blk_drewN ?_ _ | refine blk_drew ?_ | refine blk_alloc ?_ _)); exact BK128.out)) hb); have n1_ := Aside0.mk (below_step (by repeat (first | (with_reducible first | exact HB.out | apply below_alloc | apply pw_below_drewN | apply below_drew1 | refine below_set ?_ GE128.out) | exact HB.out)) hb); clear BK128; clear HB; have BK128 := n0_; have HB := n1_; clear n0_ n1_; (try clear hb); (try clear hb2); (try clear hk); (try clear hi); have hcz8_0 : w7.cell? ⟨gb128, 0, none⟩ = some (.int .i64 a0_0) := (blk_cell BK128.out 0).trans rfl; have hcz8_1 : w7.cell? ⟨gb128, 1, none⟩ = some (.int .i64 a0_1) := (blk_cell BK128.out 1).trans rfl; have hcz8_2 : w7.cell? ⟨gb128, 2, none⟩ = some (.slice A0_2 l0_2.length c0_2) := (blk_cell BK128.out 2).trans rfl))
    (try simp only [Act.put, List.setIfInBounds_toArray, List.set_cons_zero, List.set_cons_succ])
    go_cut [3] (fun v3 wc => ∃ (kq : Nat) (x3_3 : ByteArray), v3 = .string x3_3 ∧ Aside0 (impl_ReplyText.j0 kq x3_3 a0_0 a0_1 l0_2 = some r) ∧ Aside0 (kq ≤ k) ∧ Aside0 (wc.heap[gb128]? = some (.cells #[.int .i64 a0_0, .int .i64 a0_1, (.slice A0_2 l0_2.length c0_2)] 29 (0, 0))) ∧ Aside0 (Below w.heap.size w wc))
    case first =>
      have H := HC4.out
      clear HC4
      by_cases c9 : a0_1 = 0
      · rw [if_pos c9] at H
        have c9b0 : (a0_1 == 0) = true := beq_iff_eq.mpr c9
        have c9b1 : (a0_1 != 0) = false := bne_eq_false_iff_eq.mpr c9
        clear c9
        (first | rw [c9b0] | (simp only [i64_w, i32_w]; rw [c9b0]) | skip)
        have H' := Aside0.mk H
        clear H
        go_wp2
        go_meet
        case rel => exact ⟨_, ((⟨#[99, 111, 100, 101, 32]⟩ : ByteArray) ++ t129), (by first | rfl | (simp; done) | (simp [*]; done)), H', ⟨by first | omega | exact Nat.le_refl _⟩, ⟨by (with_reducible repeat (first | refine blk_drewN ?_ _ | refine blk_drew ?_ | refine blk_alloc ?_ _)); exact BK128.out⟩, ⟨by repeat (first | (with_reducible first | exact HB.out | apply below_alloc | apply pw_below_drewN | apply below_drew1 | refine below_set ?_ GE128.out) | exact HB.out)⟩⟩
      · rw [if_neg c9] at H
        have c9b0 : (a0_1 == 0) = false := beq_eq_false_iff_ne.mpr c9
        have c9b1 : (a0_1 != 0) = true := bne_iff_ne.mpr c9
        (first | rw [c9b0] | (simp only [i64_w, i32_w]; rw [c9b0]) | skip)
        replace H := Option.bind_eq_some_iff.mp H
        obtain ⟨t130, A100, H⟩ := H
        replace H : (if 8 + t130.size ≤ 9223372036854775807 then (if ((⟨#[99, 111, 100, 101, 32]⟩ : ByteArray) ++ t129).size + ((⟨#[32, 115, 116, 97, 116, 117, 115, 32]⟩ : ByteArray) ++ t130).size ≤ 9223372036854775807 then (impl_ReplyText.j0 k (((⟨#[99, 111, 100, 101, 32]⟩ : ByteArray) ++ t129) ++ ((⟨#[32, 115, 116, 97, 116, 117, 115, 32]⟩ : ByteArray) ++ t130)) a0_0 a0_1 l0_2) else (none)) else (none)) = some r := H
        have A10 := Aside0.mk A100
        clear A100
        by_cases c11 : 8 + t130.size ≤ 9223372036854775807
        · rw [if_pos c11] at H
          have c11b0 := eq_true c11
          have c11b1 : decide (8 + t130.size ≤ 9223372036854775807) = true := decide_eq_true c11
          try have c11b2 : (9223372036854775807 < 8 + t130.size) = False := eq_false (Nat.not_lt.2 c11)
          by_cases c12 : ((⟨#[99, 111, 100, 101, 32]⟩ : ByteArray) ++ t129).size + ((⟨#[32, 115, 116, 97, 116, 117, 115, 32]⟩ : ByteArray) ++ t130).size ≤ 9223372036854775807
          · rw [if_pos c12] at H
            have c12b0 := eq_true c12
            have c12b1 : decide (((⟨#[99, 111, 100, 101, 32]⟩ : ByteArray) ++ t129).size + ((⟨#[32, 115, 116, 97, 116, 117, 115, 32]⟩ : ByteArray) ++ t130).size ≤ 9223372036854775807) = true := decide_eq_true c12
            try have c12b2 : (9223372036854775807 < ((⟨#[99, 111, 100, 101, 32]⟩ : ByteArray) ++ t129).size + ((⟨#[32, 115, 116, 97, 116, 117, 115, 32]⟩ : ByteArray) ++ t130).size) = False := eq_false (Nat.not_lt.2 c12)
            try have c12b5 : (9223372036854775807 < 5 + t129.size + (8 + t130.size)) = False := eq_false (Nat.not_lt.2 (by have h1_ := c12; simp only [ByteArray.size_append] at h1_; exact h1_))
            have H' := Aside0.mk H
            clear H
            have hcz13_0 : w7.cell? ⟨gb128, 0, none⟩ = some (.int .i64 a0_0) := (blk_cell BK128.out 0).trans rfl
            have hcz13_1 : w7.cell? ⟨gb128, 1, none⟩ = some (.int .i64 a0_1) := (blk_cell BK128.out 1).trans rfl
            have hcz13_2 : w7.cell? ⟨gb128, 2, none⟩ = some (.slice A0_2 l0_2.length c0_2) := (blk_cell BK128.out 2).trans rfl
            go_wp2_with (first | ((with_reducible refine gate_callee (f := 21) rfl ?_); refine goesL_ (some 16) rfl rfl Tryd.func21 (by kernel_rfl) rfl #[.int .i64 a0_1] rfl (by (try simp only [List.map_toArray, List.map_cons, List.map_nil]); first | done | rfl | (simp only [List.length_drop, List.length_take]; rfl)) ?_; (with_reducible refine (impl_Decimal.calls a0_1 t130 _ ?side1 A10.out).mono ?_); (case side1 => exact Go.Proofs.YtomchkdbhcakoaaDoor.MyDoor.Door.go HT.out (by repeat (first | (with_reducible first | exact HB.out | apply below_alloc | apply pw_below_drewN | apply below_drew1 | refine below_set ?_ GE128.out) | exact HB.out))); rintro e w14 ⟨rfl, hb⟩; refine ⟨_, rfl, ?_⟩; have n0_ := Aside0.mk (blk_below (g := gb128) (by first | (with_reducible exact BK128.out) | (with_reducible exact blk_drewN BK128.out _) | (with_reducible exact blk_drew BK128.out) | ((with_reducible repeat (first | refine blk_drewN ?_ _ | refine blk_drew ?_ | refine blk_alloc ?_ _)); exact BK128.out)) hb); have n1_ := Aside0.mk (below_step (by repeat (first | (with_reducible first | exact HB.out | apply below_alloc | apply pw_below_drewN | apply below_drew1 | refine below_set ?_ GE128.out) | exact HB.out)) hb); clear BK128; clear HB; have BK128 := n0_; have HB := n1_; clear n0_ n1_; (try clear hb); (try clear hb2); (try clear hk); (try clear hi)))
            go_meet
            case rel => exact ⟨_, (((⟨#[99, 111, 100, 101, 32]⟩ : ByteArray) ++ t129) ++ ((⟨#[32, 115, 116, 97, 116, 117, 115, 32]⟩ : ByteArray) ++ t130)), (by first | rfl | (simp; done) | (simp [*]; done)), H', ⟨by first | omega | exact Nat.le_refl _⟩, ⟨by (with_reducible repeat (first | refine blk_drewN ?_ _ | refine blk_drew ?_ | refine blk_alloc ?_ _)); exact BK128.out⟩, ⟨by repeat (first | (with_reducible first | exact HB.out | apply below_alloc | apply pw_below_drewN | apply below_drew1 | refine below_set ?_ GE128.out) | exact HB.out)⟩⟩
          · rw [if_neg c12] at H
            exact absurd H (by simp)
        · rw [if_neg c11] at H
          exact absurd H (by simp)
    case rest =>
      clear HC4
      try clear c1
      try clear c2
      try clear p2
      try clear c3
      try clear c3b0
      try clear c3b1
      try clear c3b2
      try clear c9
      try clear c9b0
      try clear c9b1
      try clear c11
      try clear c11b0
      try clear c11b1
      try clear c11b2
      try clear c12
      try clear c12b0
      try clear c12b1
      try clear c12b2
      try clear hcz13_0
      try clear hcz13_1
      try clear hcz13_2
      try clear hcz6_0
      try clear hcz6_1
      try clear hcz6_2
      try clear hcz8_0
      try clear hcz8_1
      try clear hcz8_2
      obtain ⟨kq, x3_3, rfl, HA, HJ3, BK128, HB⟩ := hcut
      cases kq with
      | zero => exact absurd HA.out (by simp [impl_ReplyText.j0])
      | succ kj3 =>
        have H := HA.out
        clear HA
        simp only [impl_ReplyText.j0] at H
        have H' := Aside0.mk H
        clear H
        have hcz15_0 : wc.cell? ⟨gb128, 0, none⟩ = some (.int .i64 a0_0) := (blk_cell BK128.out 0).trans rfl
        have hcz15_1 : wc.cell? ⟨gb128, 1, none⟩ = some (.int .i64 a0_1) := (blk_cell BK128.out 1).trans rfl
        have hcz15_2 : wc.cell? ⟨gb128, 2, none⟩ = some (.slice A0_2 l0_2.length c0_2) := (blk_cell BK128.out 2).trans rfl
        go_wp2
        go_loopg [3, 22] kj3 (fun kq v3 v22 w' => ∃ (x3_2 : ByteArray) (x22_2 : Int), v3 = .string x3_2 ∧ v22 = .int .i64 x22_2 ∧ Aside0 (impl_ReplyText.l0 kq x3_2 l0_2 (l0_2.length : Int) x22_2 = some r) ∧ Aside0 (kq ≤ kj3) ∧ Aside0 (w'.heap[gb128]? = some (.cells #[.int .i64 a0_0, .int .i64 a0_1, (.slice A0_2 l0_2.length c0_2)] 29 (0, 0))) ∧ Aside0 (Below w.heap.size w w'))
        case atStart => exact ⟨(x3_3), (0), (by first | rfl | (simp; done) | (simp [*]; done)), (by first | rfl | (simp; done) | (simp [*]; done)), H', ⟨Nat.le_refl _⟩, ⟨by (with_reducible repeat (first | refine blk_drewN ?_ _ | refine blk_drew ?_ | refine blk_alloc ?_ _)); exact BK128.out⟩, ⟨by repeat (first | (with_reducible first | exact HB.out | apply below_alloc | apply pw_below_drewN | apply below_drew1 | refine below_set ?_ GE128.out) | exact HB.out)⟩⟩
        case round =>
          clear H'
          try clear c1
          try clear c2
          try clear p2
          try clear c3
          try clear c3b0
          try clear c3b1
          try clear c3b2
          try clear c9
          try clear c9b0
          try clear c9b1
          try clear c11
          try clear c11b0
          try clear c11b1
          try clear c11b2
          try clear c12
          try clear c12b0
          try clear c12b1
          try clear c12b2
          try clear hcz13_0
          try clear hcz13_1
          try clear hcz13_2
          try clear hcz15_0
          try clear hcz15_1
          try clear hcz15_2
          try clear hcz6_0
          try clear hcz6_1
          try clear hcz6_2
          try clear hcz8_0
          try clear hcz8_1
          try clear hcz8_2
          try clear p2
          obtain ⟨x3_2, x22_2, rfl, rfl, HA, HK2, BK128, HB⟩ := hrel
          cases gk with
          | zero => exact absurd HA.out (by simp [impl_ReplyText.l0])
          | succ k2 =>
            have H := HA.out
            clear HA
            simp only [impl_ReplyText.l0] at H
            by_cases c16 : x22_2 < (l0_2.length : Int)
            · rw [if_pos c16] at H
              have c16b0 : decide (x22_2 < (l0_2.length : Int)) = true := decide_eq_true c16
              clear c16
              by_cases c17 : 0 ≤ x22_2
              · rw [if_pos c17] at H
                have c17b0 : decide (0 ≤ x22_2) = true := decide_eq_true c17
                clear c17
                by_cases c18 : x22_2 < (l0_2.length : Int)
                · rw [if_pos c18] at H
                  have c18b0 : decide (x22_2 < (l0_2.length : Int)) = true := decide_eq_true c18
                  clear c18
                  replace H := Option.bind_eq_some_iff.mp H
                  obtain ⟨t133, A190, H⟩ := H
                  replace H : (if 4 + t133.size ≤ 9223372036854775807 then (if ((⟨#[32, 103, 111, 32]⟩ : ByteArray) ++ t133).size + 1 ≤ 9223372036854775807 then ((impl_Decimal.f ((rd_T49 l0_2 x22_2).f2)).bind fun t134 => (if (((⟨#[32, 103, 111, 32]⟩ : ByteArray) ++ t133) ++ (⟨#[32]⟩ : ByteArray)).size + t134.size ≤ 9223372036854775807 then (if x3_2.size + ((((⟨#[32, 103, 111, 32]⟩ : ByteArray) ++ t133) ++ (⟨#[32]⟩ : ByteArray)) ++ t134).size ≤ 9223372036854775807 then (impl_ReplyText.l0 k2 (x3_2 ++ ((((⟨#[32, 103, 111, 32]⟩ : ByteArray) ++ t133) ++ (⟨#[32]⟩ : ByteArray)) ++ t134)) l0_2 (l0_2.length : Int) (wrap64 (x22_2 + 1))) else (none)) else (none))) else (none)) else (none)) = some r := H
                  have A19 := Aside0.mk A190
                  clear A190
                  by_cases c20 : 4 + t133.size ≤ 9223372036854775807
                  · rw [if_pos c20] at H
                    have c20b0 := eq_true c20
                    have c20b1 : decide (4 + t133.size ≤ 9223372036854775807) = true := decide_eq_true c20
                    try have c20b2 : (9223372036854775807 < 4 + t133.size) = False := eq_false (Nat.not_lt.2 c20)
                    by_cases c21 : ((⟨#[32, 103, 111, 32]⟩ : ByteArray) ++ t133).size + 1 ≤ 9223372036854775807
                    · rw [if_pos c21] at H
                      have c21b0 := eq_true c21
                      have c21b1 : decide (((⟨#[32, 103, 111, 32]⟩ : ByteArray) ++ t133).size + 1 ≤ 9223372036854775807) = true := decide_eq_true c21
                      try have c21b2 : (9223372036854775807 < ((⟨#[32, 103, 111, 32]⟩ : ByteArray) ++ t133).size + 1) = False := eq_false (Nat.not_lt.2 c21)
                      try have c21b5 : (9223372036854775807 < 4 + t133.size + 1) = False := eq_false (Nat.not_lt.2 (by have h1_ := c21; simp only [ByteArray.size_append] at h1_; exact h1_))
                      replace H := Option.bind_eq_some_iff.mp H
                      obtain ⟨t134, A220, H⟩ := H
                      replace H : (if (((⟨#[32, 103, 111, 32]⟩ : ByteArray) ++ t133) ++ (⟨#[32]⟩ : ByteArray)).size + t134.size ≤ 9223372036854775807 then (if x3_2.size + ((((⟨#[32, 103, 111, 32]⟩ : ByteArray) ++ t133) ++ (⟨#[32]⟩ : ByteArray)) ++ t134).size ≤ 9223372036854775807 then (impl_ReplyText.l0 k2 (x3_2 ++ ((((⟨#[32, 103, 111, 32]⟩ : ByteArray) ++ t133) ++ (⟨#[32]⟩ : ByteArray)) ++ t134)) l0_2 (l0_2.length : Int) (wrap64 (x22_2 + 1))) else (none)) else (none)) = some r := H
                      have A22 := Aside0.mk A220
                      clear A220
                      by_cases c23 : (((⟨#[32, 103, 111, 32]⟩ : ByteArray) ++ t133) ++ (⟨#[32]⟩ : ByteArray)).size + t134.size ≤ 9223372036854775807
                      · rw [if_pos c23] at H
                        have c23b0 := eq_true c23
                        have c23b1 : decide ((((⟨#[32, 103, 111, 32]⟩ : ByteArray) ++ t133) ++ (⟨#[32]⟩ : ByteArray)).size + t134.size ≤ 9223372036854775807) = true := decide_eq_true c23
                        try have c23b2 : (9223372036854775807 < (((⟨#[32, 103, 111, 32]⟩ : ByteArray) ++ t133) ++ (⟨#[32]⟩ : ByteArray)).size + t134.size) = False := eq_false (Nat.not_lt.2 c23)
                        try have c23b5 : (9223372036854775807 < 4 + t133.size + 1 + t134.size) = False := eq_false (Nat.not_lt.2 (by have h1_ := c23; simp only [ByteArray.size_append] at h1_; exact h1_))
                        by_cases c24 : x3_2.size + ((((⟨#[32, 103, 111, 32]⟩ : ByteArray) ++ t133) ++ (⟨#[32]⟩ : ByteArray)) ++ t134).size ≤ 9223372036854775807
                        · rw [if_pos c24] at H
                          have c24b0 := eq_true c24
                          have c24b1 : decide (x3_2.size + ((((⟨#[32, 103, 111, 32]⟩ : ByteArray) ++ t133) ++ (⟨#[32]⟩ : ByteArray)) ++ t134).size ≤ 9223372036854775807) = true := decide_eq_true c24
                          try have c24b2 : (9223372036854775807 < x3_2.size + ((((⟨#[32, 103, 111, 32]⟩ : ByteArray) ++ t133) ++ (⟨#[32]⟩ : ByteArray)) ++ t134).size) = False := eq_false (Nat.not_lt.2 c24)
                          try have c24b5 : (9223372036854775807 < x3_2.size + (4 + t133.size + 1 + t134.size)) = False := eq_false (Nat.not_lt.2 (by have h1_ := c24; simp only [ByteArray.size_append] at h1_; exact h1_))
                          have H' := Aside0.mk H
                          clear H
                          have p131 : 0 ≤ (x22_2 : Int) := of_decide_eq_true (by first | (with_reducible assumption) | assumption)
                          have q131 : x22_2 < (l0_2.length : Int) := of_decide_eq_true (by first | (with_reducible assumption) | assumption)
                          obtain ⟨ad131, e131, hx131_0, hx131_1, hx131_2⟩ := at_T49 HR0_2.out x22_2 p131 q131
                          cases e131
                          replace hx131_0 := (HB.out.cell (World.block_lt_of_cell? w _ hx131_0)).trans hx131_0
                          replace hx131_1 := (HB.out.cell (World.block_lt_of_cell? w _ hx131_1)).trans hx131_1
                          replace hx131_2 := (HB.out.cell (World.block_lt_of_cell? w _ hx131_2)).trans hx131_2
                          replace p131 := eq_true p131
                          replace q131 := eq_true q131
                          try go_wp2_with (first | ((with_reducible refine gate_dst (N := 5) rfl ?_); refine box_event ?hg (N := 5) ?hd (cs := #[.int .i64 0, .int .i64 0, .int .i64 0]) (t := 49) ?hr ?_; (case hd => rfl); (case hg => rfl); (case hr => first | (go_simp; done) | (go_simp; rfl)); intro gb132 hg w25 hbox hb; have n0_ := Aside0.mk (blk_below (g := gb128) (by first | (with_reducible exact BK128.out) | (with_reducible exact blk_drewN BK128.out _) | (with_reducible exact blk_drew BK128.out) | ((with_reducible repeat (first | refine blk_drewN ?_ _ | refine blk_drew ?_ | refine blk_alloc ?_ _)); exact BK128.out)) hb); have n1_ := Aside0.mk (below_step (by repeat (first | (with_reducible first | exact HB.out | apply below_alloc | apply pw_below_drewN | apply below_drew1 | refine below_set ?_ GE128.out) | exact HB.out)) hb); have n2_ := Aside0.mk (hbox); have n3_ := Aside0.mk ((by rw [hg]; exact (below_size (by repeat (first | (with_reducible first | exact HB.out | apply below_alloc | apply pw_below_drewN | apply below_drew1 | refine below_set ?_ GE128.out) | exact HB.out))) : w.heap.size ≤ gb132)); have n4_ := n3_; have n5_ := Aside0.mk ((by rw [hg]; exact Nat.ne_of_lt (blk_lt (g := gb128) (by (with_reducible repeat (first | refine blk_drewN ?_ _ | refine blk_drew ?_ | refine blk_alloc ?_ _)); exact BK128.out)) : gb128 ≠ gb132)); have n6_ := Aside0.mk ((by rw [hg]; exact Nat.ne_of_gt (blk_lt (g := gb128) (by (with_reducible repeat (first | refine blk_drewN ?_ _ | refine blk_drew ?_ | refine blk_alloc ?_ _)); exact BK128.out)) : gb132 ≠ gb128)); clear BK128; clear HB; have BK128 := n0_; have HB := n1_; have BK132 := n2_; have GW132 := n3_; have GE132 := n4_; have NB128_132 := n5_; have NB132_128 := n6_; clear n0_ n1_ n2_ n3_ n4_ n5_ n6_; clear hb hbox hg; have hnb26 := NB132_128.out; have hnc26 := NB128_132.out; have hcz27_0 : w25.cell? ⟨gb132, 0, none⟩ = some (.int .i64 0) := (blk_cell BK132.out 0).trans rfl; have hcz27_1 : w25.cell? ⟨gb132, 1, none⟩ = some (.int .i64 0) := (blk_cell BK132.out 1).trans rfl; have hcz27_2 : w25.cell? ⟨gb132, 2, none⟩ = some (.int .i64 0) := (blk_cell BK132.out 2).trans rfl; have hfz27_0 := blk_frozen BK132.out 0; have hfz27_1 := blk_frozen BK132.out 1; have hfz27_2 := blk_frozen BK132.out 2))
                          have n0_ : Aside0 ((((w25.setCell ⟨gb132, 0, none⟩ (.int .i64 ((rd_T49 l0_2 x22_2).f0))).setCell ⟨gb132, 1, none⟩ (.int .i64 ((rd_T49 l0_2 x22_2).f1))).setCell ⟨gb132, 2, none⟩ (.int .i64 ((rd_T49 l0_2 x22_2).f2))).heap[gb128]? = some (.cells #[.int .i64 a0_0, .int .i64 a0_1, .slice (some ad131) l0_2.length c0_2] 29 (0, 0))) := ⟨by (with_reducible repeat (first | refine blk_drewN ?_ _ | refine blk_drew ?_ | refine blk_alloc ?_ _)); refine blk_far ?_ NB128_132.out _; (with_reducible repeat (first | refine blk_drewN ?_ _ | refine blk_drew ?_ | refine blk_alloc ?_ _)); refine blk_far ?_ NB128_132.out _; (with_reducible repeat (first | refine blk_drewN ?_ _ | refine blk_drew ?_ | refine blk_alloc ?_ _)); refine blk_far ?_ NB128_132.out _; (with_reducible repeat (first | refine blk_drewN ?_ _ | refine blk_drew ?_ | refine blk_alloc ?_ _)); exact BK128.out⟩
                          have n1_ : Aside0 ((((w25.setCell ⟨gb132, 0, none⟩ (.int .i64 ((rd_T49 l0_2 x22_2).f0))).setCell ⟨gb132, 1, none⟩ (.int .i64 ((rd_T49 l0_2 x22_2).f1))).setCell ⟨gb132, 2, none⟩ (.int .i64 ((rd_T49 l0_2 x22_2).f2))).heap[gb132]? = some (.cells #[.int .i64 ((rd_T49 l0_2 x22_2).f0), .int .i64 ((rd_T49 l0_2 x22_2).f1), .int .i64 ((rd_T49 l0_2 x22_2).f2)] 49 (0, 0))) := ⟨by (with_reducible repeat (first | refine blk_drewN ?_ _ | refine blk_drew ?_ | refine blk_alloc ?_ _)); refine blk_put (cs := #[.int .i64 ((rd_T49 l0_2 x22_2).f0), .int .i64 ((rd_T49 l0_2 x22_2).f1), .int .i64 0]) ?_ 2 _ rfl; (with_reducible repeat (first | refine blk_drewN ?_ _ | refine blk_drew ?_ | refine blk_alloc ?_ _)); refine blk_put (cs := #[.int .i64 ((rd_T49 l0_2 x22_2).f0), .int .i64 0, .int .i64 0]) ?_ 1 _ rfl; (with_reducible repeat (first | refine blk_drewN ?_ _ | refine blk_drew ?_ | refine blk_alloc ?_ _)); refine blk_put (cs := #[.int .i64 0, .int .i64 0, .int .i64 0]) ?_ 0 _ rfl; (with_reducible repeat (first | refine blk_drewN ?_ _ | refine blk_drew ?_ | refine blk_alloc ?_ _)); exact BK132.out⟩
                          have n2_ : Aside0 (Below w.heap.size w (((w25.setCell ⟨gb132, 0, none⟩ (.int .i64 ((rd_T49 l0_2 x22_2).f0))).setCell ⟨gb132, 1, none⟩ (.int .i64 ((rd_T49 l0_2 x22_2).f1))).setCell ⟨gb132, 2, none⟩ (.int .i64 ((rd_T49 l0_2 x22_2).f2)))) := ⟨by repeat (first | (with_reducible first | exact HB.out | apply below_alloc | apply pw_below_drewN | apply below_drew1 | refine below_set ?_ GE128.out | refine below_set ?_ GE132.out) | exact HB.out)⟩
                          (try clear BK128)
                          (try clear BK132)
                          (try clear HB)
                          (first | (rw [show World.drewN (((w25.setCell ⟨gb132, 0, none⟩ (.int .i64 ((rd_T49 l0_2 x22_2).f0))).setCell ⟨gb132, 1, none⟩ (.int .i64 ((rd_T49 l0_2 x22_2).f1))).setCell ⟨gb132, 2, none⟩ (.int .i64 ((rd_T49 l0_2 x22_2).f2))) nd = World.drewN (((w25.setCell ⟨gb132, 0, none⟩ (.int .i64 ((rd_T49 l0_2 x22_2).f0))).setCell ⟨gb132, 1, none⟩ (.int .i64 ((rd_T49 l0_2 x22_2).f1))).setCell ⟨gb132, 2, none⟩ (.int .i64 ((rd_T49 l0_2 x22_2).f2))) nd from rfl]; have p0_ := Aside0.mk (blk_drewN n0_.out nd); have p1_ := Aside0.mk (blk_drewN n1_.out nd); have p2_ := Aside0.mk (pw_below_drewN n2_.out nd); generalize World.drewN (((w25.setCell ⟨gb132, 0, none⟩ (.int .i64 ((rd_T49 l0_2 x22_2).f0))).setCell ⟨gb132, 1, none⟩ (.int .i64 ((rd_T49 l0_2 x22_2).f1))).setCell ⟨gb132, 2, none⟩ (.int .i64 ((rd_T49 l0_2 x22_2).f2))) nd = w28 at p0_ p1_ p2_ ⊢; clear n0_ n1_ n2_; have n0_ := p0_; have n1_ := p1_; have n2_ := p2_; clear p0_ p1_ p2_) | generalize (((w25.setCell ⟨gb132, 0, none⟩ (.int .i64 ((rd_T49 l0_2 x22_2).f0))).setCell ⟨gb132, 1, none⟩ (.int .i64 ((rd_T49 l0_2 x22_2).f1))).setCell ⟨gb132, 2, none⟩ (.int .i64 ((rd_T49 l0_2 x22_2).f2))) = w28 at n0_ n1_ n2_ ⊢)
                          have BK128 := n0_
                          have BK132 := n1_
                          have HB := n2_
                          clear n0_ n1_ n2_
                          have n0_ := Aside0.mk (blk_drew BK128.out)
                          have n1_ := Aside0.mk (blk_drew BK132.out)
                          have n2_ := Aside0.mk (below_drew1 HB.out)
                          clear BK128
                          clear BK132
                          clear HB
                          have BK128 := n0_
                          have BK132 := n1_
                          have HB := n2_
                          clear n0_ n1_ n2_
                          refine start_ (n := 12) (S := fun w' => w'.cell? ⟨gb132, 0, none⟩ = some (.int .i64 ((rd_T49 l0_2 x22_2).f0)) ∧ w'.cell? ⟨gb132, 1, none⟩ = some (.int .i64 ((rd_T49 l0_2 x22_2).f1)) ∧ w'.cell? ⟨gb132, 2, none⟩ = some (.int .i64 ((rd_T49 l0_2 x22_2).f2))) (ds := []) #[false, false, false, false, false, false, false, false, false, false, false, false] (by kernel_rfl) rfl rfl ⟨(blk_cell BK132.out 0).trans rfl, (blk_cell BK132.out 1).trans rfl, (blk_cell BK132.out 2).trans rfl⟩ (fun hHeld => ?_); refine with_tabW impl_ReplyText.tab7 impl_ReplyText.bits7 (fun HT_ HW_ => ?_)
                          generalize w28.drew = w29 at BK128 BK132 HB hHeld ⊢
                          refine pure_ (i := 0) (N := some 26) (v := ?_) (a' := ?_) #[true, false, false, false, false, false, false, false, false, false, false, false] rfl rfl (any_of HT_.out (by kernel_rfl)) (fun _ _ _ h => h) (Or.inl ⟨by rfl, ?_⟩) ?_ ?_
                          rotate_left
                          · intro w'
                            go_simp
                            with_reducible rfl
                          rotate_left
                          · simp only [Act.put, List.setIfInBounds_toArray, List.set_cons_zero, List.set_cons_succ, i64_w, i32_w]
                            rfl
                          refine pure_ (i := 1) (N := some 27) (v := ?_) (a' := ?_) #[true, true, false, false, false, false, false, false, false, false, false, false] rfl rfl (any_of HT_.out (by kernel_rfl)) (fun _ _ _ h => h) (Or.inl ⟨by rfl, ?_⟩) ?_ ?_
                          rotate_left
                          · intro w'
                            go_simp
                            with_reducible rfl
                          rotate_left
                          · simp only [Act.put, List.setIfInBounds_toArray, List.set_cons_zero, List.set_cons_succ, i64_w, i32_w]
                            rfl
                          refine pure_ (i := 6) (N := some 32) (v := ?_) (a' := ?_) #[true, true, false, false, false, false, true, false, false, false, false, false] rfl rfl (any_of HT_.out (by kernel_rfl)) (fun _ _ _ h => h) (Or.inl ⟨by rfl, ?_⟩) ?_ ?_
                          rotate_left
                          · intro w'
                            go_simp
                            with_reducible rfl
                          rotate_left
                          · simp only [Act.put, List.setIfInBounds_toArray, List.set_cons_zero, List.set_cons_succ, i64_w, i32_w]
                            rfl
                          refine take_ (i := 2) (N := some 28) (v := ?_) (a' := ?_) #[true, true, true, false, false, false, true, false, false, false, false, false] rfl rfl (take_ofW HT_.out HW_.out (by kernel_rfl)) (fun _ _ _ h => h) (Or.inl ⟨by rfl, ?_⟩) hHeld ?_ ?_
                          rotate_left
                          · rintro w' ⟨s0, s1, s2⟩
                            go_simp
                            with_reducible rfl
                          rotate_left
                          · simp only [Act.put, List.setIfInBounds_toArray, List.set_cons_zero, List.set_cons_succ, i64_w, i32_w]
                            rfl
                          refine take_ (i := 7) (N := some 33) (v := ?_) (a' := ?_) #[true, true, true, false, false, false, true, true, false, false, false, false] rfl rfl (take_ofW HT_.out HW_.out (by kernel_rfl)) (fun _ _ _ h => h) (Or.inl ⟨by rfl, ?_⟩) hHeld ?_ ?_
                          rotate_left
                          · rintro w' ⟨s0, s1, s2⟩
                            go_simp
                            with_reducible rfl
                          rotate_left
                          · simp only [Act.put, List.setIfInBounds_toArray, List.set_cons_zero, List.set_cons_succ, i64_w, i32_w]
                            rfl
                          refine one_ (i := 3) (N := some 29) #[true, true, true, true, false, false, true, true, false, false, false, false] rfl rfl (one_of HT_.out (by kernel_rfl)) (by decide) (fun K hK => ?_)
                          refine goes_ Tryd.func21 (by kernel_rfl) rfl #[.int .i64 ((rd_T49 l0_2 x22_2).f0)] (by rfl) rfl rfl (by (try simp only [List.map_toArray, List.map_cons, List.map_nil]); first | done | rfl | (simp only [List.length_drop, List.length_take]; rfl)) ?_
                          with_reducible refine (impl_Decimal.calls ((rd_T49 l0_2 x22_2).f0) t133 _ ?side1 A19.out).mono ?_
                          (case side1 => exact Go.Proofs.YtomchkdbhcakoaaDoor.MyDoor.Door.go HT.out (by repeat (first | (with_reducible first | exact HB.out | apply below_alloc | apply pw_below_drewN | apply below_drew1 | refine below_set ?_ GE128.out | refine below_set ?_ GE132.out) | exact HB.out)))
                          rintro e w30 ⟨rfl, hb⟩
                          refine ⟨_, rfl, ?_⟩
                          have n0_ := Aside0.mk (blk_below (g := gb128) (by first | (with_reducible exact BK128.out) | (with_reducible exact blk_drewN BK128.out _) | (with_reducible exact blk_drew BK128.out) | ((with_reducible repeat (first | refine blk_drewN ?_ _ | refine blk_drew ?_ | refine blk_alloc ?_ _)); exact BK128.out)) hb)
                          have n1_ := Aside0.mk (blk_below (g := gb132) (by first | (with_reducible exact BK132.out) | (with_reducible exact blk_drewN BK132.out _) | (with_reducible exact blk_drew BK132.out) | ((with_reducible repeat (first | refine blk_drewN ?_ _ | refine blk_drew ?_ | refine blk_alloc ?_ _)); exact BK132.out)) hb)
                          have n2_ := Aside0.mk (below_step (by repeat (first | (with_reducible first | exact HB.out | apply below_alloc | apply pw_below_drewN | apply below_drew1 | refine below_set ?_ GE128.out | refine below_set ?_ GE132.out) | exact HB.out)) hb)
                          clear BK128
                          clear BK132
                          clear HB
                          have BK128 := n0_
                          have BK132 := n1_
                          have HB := n2_
                          clear n0_ n1_ n2_
                          (try clear hb)
                          (try clear hb2)
                          (try clear hk)
                          (try clear hi)
                          refine hK.out _ _ ⟨(blk_cell BK132.out 0).trans rfl, (blk_cell BK132.out 1).trans rfl, (blk_cell BK132.out 2).trans rfl⟩ (fun hHeld => ?_)
                          clear hK K
                          refine norm_ (a' := ?_) ?_ ?_
                          rotate_left
                          · show Act.put _ (some 29) _ = _
                            simp only [Act.put, List.setIfInBounds_toArray, List.set_cons_zero, List.set_cons_succ, i64_w, i32_w]
                            rfl
                          refine pure_ (i := 4) (N := some 30) (v := ?_) (a' := ?_) #[true, true, true, true, true, false, true, true, false, false, false, false] rfl rfl (any_of HT_.out (by kernel_rfl)) (fun _ _ _ h => h) (Or.inl ⟨by rfl, ?_⟩) ?_ ?_
                          rotate_left
                          · intro w'
                            go_simp
                            with_reducible rfl
                          rotate_left
                          · simp only [Act.put, List.setIfInBounds_toArray, List.set_cons_zero, List.set_cons_succ, i64_w, i32_w]
                            rfl
                          refine pure_ (i := 5) (N := some 31) (v := ?_) (a' := ?_) #[true, true, true, true, true, true, true, true, false, false, false, false] rfl rfl (any_of HT_.out (by kernel_rfl)) (fun _ _ _ h => h) (Or.inl ⟨by rfl, ?_⟩) ?_ ?_
                          rotate_left
                          · intro w'
                            go_simp
                            with_reducible rfl
                          rotate_left
                          · simp only [Act.put, List.setIfInBounds_toArray, List.set_cons_zero, List.set_cons_succ, i64_w, i32_w]
                            rfl
                          refine one_ (i := 8) (N := some 34) #[true, true, true, true, true, true, true, true, true, false, false, false] rfl rfl (one_of HT_.out (by kernel_rfl)) (by decide) (fun K hK => ?_)
                          refine goes_ Tryd.func21 (by kernel_rfl) rfl #[.int .i64 ((rd_T49 l0_2 x22_2).f2)] (by rfl) rfl rfl (by (try simp only [List.map_toArray, List.map_cons, List.map_nil]); first | done | rfl | (simp only [List.length_drop, List.length_take]; rfl)) ?_
                          with_reducible refine (impl_Decimal.calls ((rd_T49 l0_2 x22_2).f2) t134 _ ?side1 A22.out).mono ?_
                          (case side1 => exact Go.Proofs.YtomchkdbhcakoaaDoor.MyDoor.Door.go HT.out (by repeat (first | (with_reducible first | exact HB.out | apply below_alloc | apply pw_below_drewN | apply below_drew1 | refine below_set ?_ GE128.out | refine below_set ?_ GE132.out) | exact HB.out)))
                          rintro e w31 ⟨rfl, hb⟩
                          refine ⟨_, rfl, ?_⟩
                          have n0_ := Aside0.mk (blk_below (g := gb128) (by first | (with_reducible exact BK128.out) | (with_reducible exact blk_drewN BK128.out _) | (with_reducible exact blk_drew BK128.out) | ((with_reducible repeat (first | refine blk_drewN ?_ _ | refine blk_drew ?_ | refine blk_alloc ?_ _)); exact BK128.out)) hb)
                          have n1_ := Aside0.mk (blk_below (g := gb132) (by first | (with_reducible exact BK132.out) | (with_reducible exact blk_drewN BK132.out _) | (with_reducible exact blk_drew BK132.out) | ((with_reducible repeat (first | refine blk_drewN ?_ _ | refine blk_drew ?_ | refine blk_alloc ?_ _)); exact BK132.out)) hb)
                          have n2_ := Aside0.mk (below_step (by repeat (first | (with_reducible first | exact HB.out | apply below_alloc | apply pw_below_drewN | apply below_drew1 | refine below_set ?_ GE128.out | refine below_set ?_ GE132.out) | exact HB.out)) hb)
                          clear BK128
                          clear BK132
                          clear HB
                          have BK128 := n0_
                          have BK132 := n1_
                          have HB := n2_
                          clear n0_ n1_ n2_
                          (try clear hb)
                          (try clear hb2)
                          (try clear hk)
                          (try clear hi)
                          refine hK.out _ _ ⟨(blk_cell BK132.out 0).trans rfl, (blk_cell BK132.out 1).trans rfl, (blk_cell BK132.out 2).trans rfl⟩ (fun hHeld => ?_)
                          clear hK K
                          refine norm_ (a' := ?_) ?_ ?_
                          rotate_left
                          · show Act.put _ (some 34) _ = _
                            simp only [Act.put, List.setIfInBounds_toArray, List.set_cons_zero, List.set_cons_succ, i64_w, i32_w]
                            rfl
                          refine pure_ (i := 9) (N := some 35) (v := ?_) (a' := ?_) #[true, true, true, true, true, true, true, true, true, true, false, false] rfl rfl (any_of HT_.out (by kernel_rfl)) (fun _ _ _ h => h) (Or.inl ⟨by rfl, ?_⟩) ?_ ?_
                          rotate_left
                          · intro w'
                            go_simp
                            with_reducible rfl
                          rotate_left
                          · simp only [Act.put, List.setIfInBounds_toArray, List.set_cons_zero, List.set_cons_succ, i64_w, i32_w]
                            rfl
                          refine pure_ (i := 10) (N := some 36) (v := ?_) (a' := ?_) #[true, true, true, true, true, true, true, true, true, true, true, false] rfl rfl (any_of HT_.out (by kernel_rfl)) (fun _ _ _ h => h) (Or.inl ⟨by rfl, ?_⟩) ?_ ?_
                          rotate_left
                          · intro w'
                            go_simp
                            with_reducible rfl
                          rotate_left
                          · simp only [Act.put, List.setIfInBounds_toArray, List.set_cons_zero, List.set_cons_succ, i64_w, i32_w]
                            rfl
                          refine pure_ (i := 11) (N := some 3) (v := ?_) (a' := ?_) #[true, true, true, true, true, true, true, true, true, true, true, true] rfl rfl (any_of HT_.out (by kernel_rfl)) (fun _ _ _ h => h) (Or.inl ⟨by rfl, ?_⟩) ?_ ?_
                          rotate_left
                          · intro w'
                            go_simp
                            with_reducible rfl
                          rotate_left
                          · simp only [Act.put, List.setIfInBounds_toArray, List.set_cons_zero, List.set_cons_succ, i64_w, i32_w]
                            rfl
                          refine done_ (done_of HT_.out (by kernel_rfl)) ?_
                          try go_wp2
                          go_roundg k2
                          case measure => have := HJ3.out; have := HK2.out; omega
                          case rel => exact ⟨(x3_2 ++ ((((⟨#[32, 103, 111, 32]⟩ : ByteArray) ++ t133) ++ (⟨#[32]⟩ : ByteArray)) ++ t134)), (wrap64 (x22_2 + 1)), (by first | rfl | (simp; done) | (simp [*]; done)), (by first | rfl | (simp; done) | (simp [*]; done)), H', ⟨by have := HJ3.out; have := HK2.out; omega⟩, ⟨by (with_reducible repeat (first | refine blk_drewN ?_ _ | refine blk_drew ?_ | refine blk_alloc ?_ _)); exact BK128.out⟩, ⟨by repeat (first | (with_reducible first | exact HB.out | apply below_alloc | apply pw_below_drewN | apply below_drew1 | refine below_set ?_ GE128.out | refine below_set ?_ GE132.out) | exact HB.out)⟩⟩
                        · rw [if_neg c24] at H
                          exact absurd H (by simp)
                      · rw [if_neg c23] at H
                        exact absurd H (by simp)
                    · rw [if_neg c21] at H
                      exact absurd H (by simp)
                  · rw [if_neg c20] at H
                    exact absurd H (by simp)
                · rw [if_neg c18] at H
                  exact absurd H (by simp)
              · rw [if_neg c17] at H
                exact absurd H (by simp)
            · rw [if_neg c16] at H
              have c16b0 : decide (x22_2 < (l0_2.length : Int)) = false := decide_eq_false c16
              clear c16
              obtain rfl := Option.some.inj H
              go_wp2
              go_ret
              exact ⟨by first | rfl | (simp [errW_none, errW_some] <;> rfl) | (simp [*, errW_none, errW_some] <;> rfl), by repeat (first | (with_reducible first | exact HB.out | apply below_alloc | apply pw_below_drewN | apply below_drew1 | refine below_set ?_ GE128.out) | exact HB.out)⟩
  · rw [if_neg c3] at H
    exact absurd H (by simp)

end Go.Proofs.YtomchkdbhcakoaaDoor.MFnExactReplyText
