/- Made by a program of this session (out of the kit's print, with hand-made contracts): what each Go function that the law reaches computes, and that the machine's call does so. -/
import Derived.Test.YtomchkdbhcakoaaDoorMFnExactReplyTextx0
import Derived.Test.YtomchkdbhcakoaaDoorMFnExactReplyTextx1
namespace Go.Proofs.YtomchkdbhcakoaaDoor.MFnExactReplyText
open Go.RowKit Go.Proofs.YtomchkdbhcakoaaDoorW.PrintWords Go.Proofs.YtomchkdbhcakoaaDoorW.PrintLast Go.Proofs.YtomchkdbhcakoaaDoorW.PrintMore
attribute [local go_sem] max2_int min2_int max_two min_two max_three min_three max_four min_four   -- for this text's walks alone
set_option linter.unusedVariables false
set_option linter.unusedSimpArgs false

/-! ### spec_ReplyText: function 7 -/
def spec_ReplyText.l0 : Nat → List UInt8 → List S49 → Int → Option ByteArray
  | 0, _, _, _ => none
  | k + 1, x4, x0, x5 => if x5 < (x0.length : Int) then (if 0 ≤ x5 then ((spec_Decimal.f k ((rd_T49 x0 x5).f0)).bind fun t1 => (if 4 + t1.size ≤ 9223372036854775807 then (if ((⟨#[32, 103, 111, 32]⟩ : ByteArray) ++ t1).size + 1 ≤ 9223372036854775807 then ((spec_Decimal.f k ((rd_T49 x0 x5).f2)).bind fun t2 => (if (((⟨#[32, 103, 111, 32]⟩ : ByteArray) ++ t1) ++ (⟨#[32]⟩ : ByteArray)).size + t2.size ≤ 9223372036854775807 then (if x4.length + ((((⟨#[32, 103, 111, 32]⟩ : ByteArray) ++ t1) ++ (⟨#[32]⟩ : ByteArray)) ++ t2).size ≤ 140737488355328 then (spec_ReplyText.l0 k (x4 ++ ((((⟨#[32, 103, 111, 32]⟩ : ByteArray) ++ t1) ++ (⟨#[32]⟩ : ByteArray)) ++ t2).data.toList) x0 (wrap64 (x5 + 1))) else (none)) else (none))) else (none)) else (none))) else (none)) else (some ⟨x4.toArray⟩)
def spec_ReplyText.f (k : Nat) (a0_0 : Int) (a0_1 : Int) (l0_2 : List S49) : Option ByteArray := (spec_Decimal.f k a0_0).bind fun t0 => (if 5 + t0.size ≤ 9223372036854775807 then (if a0_1 = 0 then (spec_ReplyText.l0 k ((⟨#[99, 111, 100, 101, 32]⟩ : ByteArray) ++ t0).data.toList l0_2 0) else ((spec_Decimal.f k a0_1).bind fun t1 => (if ((⟨#[99, 111, 100, 101, 32]⟩ : ByteArray) ++ t0).size + 8 ≤ 9223372036854775807 then (if (((⟨#[99, 111, 100, 101, 32]⟩ : ByteArray) ++ t0) ++ (⟨#[32, 115, 116, 97, 116, 117, 115, 32]⟩ : ByteArray)).size + t1.size ≤ 9223372036854775807 then (spec_ReplyText.l0 k ((((⟨#[99, 111, 100, 101, 32]⟩ : ByteArray) ++ t0) ++ (⟨#[32, 115, 116, 97, 116, 117, 115, 32]⟩ : ByteArray)) ++ t1).data.toList l0_2 0) else (none)) else (none)))) else (none))
theorem spec_ReplyText.mono_l : ∀ k, (∀ y0 y1 y2, LeO (spec_ReplyText.l0 k y0 y1 y2) (spec_ReplyText.l0 (k + 1) y0 y1 y2))
  | 0 => fun _ _ _ r h => by simp [spec_ReplyText.l0] at h
  | k + 1 => by
    have ih0 := spec_ReplyText.mono_l k
    intro y0 y1 y2
    unfold spec_ReplyText.l0
    repeat' first
      | (with_reducible exact ih0 _ _ _)
      | (with_reducible exact spec_Decimal.mono _ k)
      | (with_reducible exact LeO.refl _)
      | (with_reducible exact LeO.none _)
      | (with_reducible refine LeO.ite ?_ ?_)
      | (with_reducible refine LeO.bind ?_ (fun _ => ?_))
theorem spec_ReplyText.mono : ∀ a0 a1 a2 k, LeO (spec_ReplyText.f k a0 a1 a2) (spec_ReplyText.f (k + 1) a0 a1 a2) := by
  intro a0 a1 a2 k
  have ih0 := spec_ReplyText.mono_l k
  unfold spec_ReplyText.f
  repeat' first
      | (with_reducible exact ih0 _ _ _)
      | (with_reducible exact spec_Decimal.mono _ k)
      | (with_reducible exact LeO.refl _)
      | (with_reducible exact LeO.none _)
      | (with_reducible refine LeO.ite ?_ ?_)
      | (with_reducible refine LeO.bind ?_ (fun _ => ?_))
theorem spec_ReplyText.info5 : (Tryd.prog.info? 5).map (fun i => (i.zero, i.size, i.bytes)) = some (some (.int .u8 0), 1, 1) := by kernel_rfl
set_option maxHeartbeats 8000000 in
set_option maxRecDepth 100000 in
theorem spec_ReplyText.calls (k : Nat) (a0_0 : Int) (a0_1 : Int) (A0_2 : Option Addr) (c0_2 : Nat) (l0_2 : List S49) (r : ByteArray) (w : World) (hr0_2 : Kd.C k49 w A0_2 l0_2.length l0_2) (hc0_2 : l0_2.length ≤ c0_2) (h : spec_ReplyText.f k a0_0 a0_1 l0_2 = some r) :
    Calls Tryd.prog 7 #[.agg #[.int .i64 a0_0, .int .i64 a0_1, .slice A0_2 l0_2.length c0_2]] w fun e w' => e = .returned (.string r) ∧ Below w.heap.size w w' := by
  have hu29 := Tryd.underlying29
  have hu49 := Tryd.underlying49
  have hu47 := Tryd.underlying47
  have hu9 := Tryd.underlying9
  have hu5 := Tryd.underlying5
  obtain ⟨i0, hi, hz0, hz1, hz2⟩ := info_parts spec_ReplyText.info5
  have HI := Aside0.mk hi
  have HZ0 := Aside0.mk hz0
  have HZ1 := Aside0.mk hz1
  have HZ2 := Aside0.mk hz2
  clear hi hz0 hz1 hz2
  have HR0_2 := Aside0.mk hr0_2
  have HC0_2 := Aside0.mk hc0_2
  clear hr0_2 hc0_2
  have HB := Aside0.mk (Below.refl w.heap.size w)
  unfold spec_ReplyText.f at h
  obtain ⟨t0, A20, H⟩ := Option.bind_eq_some_iff.mp h
  clear h
  have A2 := Aside0.mk A20
  clear A20
  by_cases c3 : 5 + t0.size ≤ 9223372036854775807
  · rw [if_pos c3] at H
    have c3b0 := eq_true c3
    have c3b1 : decide (5 + t0.size ≤ 9223372036854775807) = true := decide_eq_true c3
    try have c3b2 : (9223372036854775807 < 5 + t0.size) = False := eq_false (Nat.not_lt.2 c3)
    by_cases c9 : a0_1 = 0
    · rw [if_pos c9] at H
      have c9b0 : (a0_1 == 0) = true := beq_iff_eq.mpr c9
      have c9b1 : (a0_1 != 0) = false := bne_eq_false_iff_eq.mpr c9
      clear c9
      have HSZ := Aside0.mk (show ((⟨#[99, 111, 100, 101, 32]⟩ : ByteArray) ++ t0).size ≤ maxLen from by unfold maxLen; simp only [ByteArray.size_append]; exact c3)
      have H' := Aside0.mk H
      clear H
      go_enter Tryd.func7, Tryd.ntmps7
      go_wp2_with (first | ((with_reducible refine gate_dst (N := 1) rfl ?_); refine box_event ?hg (N := 1) ?hd (cs := #[.int .i64 a0_0, .int .i64 a0_1, .slice A0_2 l0_2.length c0_2]) (t := 29) ?hr ?_; (case hd => rfl); (case hg => rfl); (case hr => first | (go_simp; done) | (go_simp; rfl)); intro gb hg w5 hbox hb; have n0_ := Aside0.mk (below_step (by repeat (first | (with_reducible first | exact HB.out | apply below_alloc | apply pw_below_drewN | apply below_drew1) | exact HB.out)) hb); have n1_ := Aside0.mk (hbox); have n2_ := Aside0.mk ((by rw [hg]; exact (below_size (by repeat (first | (with_reducible first | exact HB.out | apply below_alloc | apply pw_below_drewN | apply below_drew1) | exact HB.out)))) : w.heap.size ≤ gb); clear HB; have HB := n0_; have BK := n1_; have GE := n2_; clear n0_ n1_ n2_; clear hb hbox hg; (try clear hcz0 hcz1 hcz2); have hcz0 : w5.cell? ⟨gb, 0, none⟩ = some (.int .i64 a0_0) := (blk_cell BK.out 0).trans rfl; have hcz1 : w5.cell? ⟨gb, 1, none⟩ = some (.int .i64 a0_1) := (blk_cell BK.out 1).trans rfl; have hcz2 : w5.cell? ⟨gb, 2, none⟩ = some (.slice A0_2 l0_2.length c0_2) := (blk_cell BK.out 2).trans rfl) | ((with_reducible refine gate_callee (f := 19) rfl ?_); refine goesL_ (some 8) rfl rfl Tryd.func19 (by kernel_rfl) rfl #[.int .i64 a0_0] rfl (by (try simp only [List.map_toArray, List.map_cons, List.map_nil]); first | done | rfl) ?_; (with_reducible refine (spec_Decimal.calls k a0_0 t0 _ A2.out).mono ?_); rintro e w7 ⟨rfl, hb⟩; refine ⟨_, rfl, ?_⟩; have n0_ := Aside0.mk (blk_below (g := gb) (by first | (with_reducible exact BK.out) | (with_reducible exact blk_drewN BK.out _) | (with_reducible exact blk_drew BK.out) | ((with_reducible repeat (first | refine blk_drewN ?_ _ | refine blk_drew ?_ | refine blk_alloc ?_ _)); exact BK.out)) hb); have n1_ := Aside0.mk (below_step (by repeat (first | (with_reducible first | exact HB.out | apply below_alloc | apply pw_below_drewN | apply below_drew1) | exact HB.out)) hb); clear BK; clear HB; have BK := n0_; have HB := n1_; clear n0_ n1_; clear hb; (try clear hcz0 hcz1 hcz2); have hcz0 : w7.cell? ⟨gb, 0, none⟩ = some (.int .i64 a0_0) := (blk_cell BK.out 0).trans rfl; have hcz1 : w7.cell? ⟨gb, 1, none⟩ = some (.int .i64 a0_1) := (blk_cell BK.out 1).trans rfl; have hcz2 : w7.cell? ⟨gb, 2, none⟩ = some (.slice A0_2 l0_2.length c0_2) := (blk_cell BK.out 2).trans rfl) | ((with_reducible refine gate_dst (N := 20) rfl ?_); refine MyBytes.conv_event (s := (⟨#[99, 111, 100, 101, 32]⟩ : ByteArray) ++ t0) rfl rfl (by first | rfl | (go_simp; done)) hu9 hu47 hu5 (by first | exact HSZ.out | (unfold maxLen; exact HSZ.out)) ?_; intro v4 w40 hown hb; have n0_ := Aside0.mk (blk_below (g := gb) (by first | (with_reducible exact BK.out) | (with_reducible exact blk_drewN BK.out _) | (with_reducible exact blk_drew BK.out) | ((with_reducible repeat (first | refine blk_drewN ?_ _ | refine blk_drew ?_ | refine blk_alloc ?_ _)); exact BK.out)) hb); have n1_ := Aside0.mk (below_step (by repeat (first | (with_reducible first | exact HB.out | apply below_alloc | apply pw_below_drewN | apply below_drew1) | exact HB.out)) hb); have HO := Aside0.mk (MyBytes.Own.base hown (below_size (by repeat (first | (with_reducible first | exact HB.out | apply below_alloc | apply pw_below_drewN | apply below_drew1) | exact HB.out)))); clear BK; clear HB; have BK := n0_; have HB := n1_; clear n0_ n1_ hown hb; (try clear hcz0 hcz1 hcz2); have hcz0 : w40.cell? ⟨gb, 0, none⟩ = some (.int .i64 a0_0) := (blk_cell BK.out 0).trans rfl; have hcz1 : w40.cell? ⟨gb, 1, none⟩ = some (.int .i64 a0_1) := (blk_cell BK.out 1).trans rfl; have hcz2 : w40.cell? ⟨gb, 2, none⟩ = some (.slice A0_2 l0_2.length c0_2) := (blk_cell BK.out 2).trans rfl))
      generalize ((⟨#[99, 111, 100, 101, 32]⟩ : ByteArray) ++ t0).data.toList = xs0 at HO H'
      (try clear c3 c3b0 c3b1)
      (try clear c3b2)
      (try clear c9b0 c9b1)
      (try clear c11 c11b0 c11b1)
      (try clear c11b2)
      (try clear c12 c12b0 c12b1)
      (try clear c12b2)
      clear HSZ
      go_wp2
      go_loopg [4, 5] k (fun kq v4 v5 w' => ∃ (x4 : List UInt8) (x5 : Int), v5 = .int .i64 x5 ∧ Aside0 (spec_ReplyText.l0 kq x4 l0_2 x5 = some r) ∧ Aside0 (kq ≤ k) ∧ Aside0 (w'.heap[gb]? = some (.cells #[.int .i64 a0_0, .int .i64 a0_1, .slice A0_2 l0_2.length c0_2] 29 (0, 0))) ∧ Aside0 (Below w.heap.size w w') ∧ Aside0 (MyBytes.Own w.heap.size w' v4 x4))
      case atStart => exact ⟨xs0, 0, (by first | rfl | (simp; done)), H', ⟨Nat.le_refl _⟩, BK, HB, HO⟩
      case round =>
        clear H' BK HB HO
        (try clear hcz0 hcz1 hcz2)
        (try clear A2)
        (try clear A10)
        obtain ⟨x4, x5, rfl, HA, HK2, BK, HB, HO⟩ := hrel
        cases gk with
        | zero => exact absurd HA.out (by simp [spec_ReplyText.l0])
        | succ k2 =>
          have H := HA.out
          clear HA
          simp only [spec_ReplyText.l0] at H
          by_cases c16 : x5 < (l0_2.length : Int)
          · rw [if_pos c16] at H
            have c16b0 : decide (x5 < (l0_2.length : Int)) = true := decide_eq_true c16
            by_cases c17 : 0 ≤ x5
            · rw [if_pos c17] at H
              have c17b0 : decide (0 ≤ x5) = true := decide_eq_true c17
              obtain ⟨t1, A190, H2_⟩ := Option.bind_eq_some_iff.mp H
              clear H
              have H := H2_
              clear H2_
              have A19 := Aside0.mk A190
              clear A190
              by_cases c20 : 4 + t1.size ≤ 9223372036854775807
              · rw [if_pos c20] at H
                have c20b0 := eq_true c20
                have c20b1 : decide (4 + t1.size ≤ 9223372036854775807) = true := decide_eq_true c20
                try have c20b2 : (9223372036854775807 < 4 + t1.size) = False := eq_false (Nat.not_lt.2 c20)
                by_cases c21 : ((⟨#[32, 103, 111, 32]⟩ : ByteArray) ++ t1).size + 1 ≤ 9223372036854775807
                · rw [if_pos c21] at H
                  have c21b0 := eq_true c21
                  have c21b1 : decide (((⟨#[32, 103, 111, 32]⟩ : ByteArray) ++ t1).size + 1 ≤ 9223372036854775807) = true := decide_eq_true c21
                  try have c21b2 : (9223372036854775807 < ((⟨#[32, 103, 111, 32]⟩ : ByteArray) ++ t1).size + 1) = False := eq_false (Nat.not_lt.2 c21)
                  try have c21b5 : (9223372036854775807 < 4 + t1.size + 1) = False := eq_false (Nat.not_lt.2 (by have h1_ := c21; simp only [ByteArray.size_append] at h1_; exact h1_))
                  obtain ⟨t2, A220, H2_⟩ := Option.bind_eq_some_iff.mp H
                  clear H
                  have H := H2_
                  clear H2_
                  have A22 := Aside0.mk A220
                  clear A220
                  by_cases c23 : (((⟨#[32, 103, 111, 32]⟩ : ByteArray) ++ t1) ++ (⟨#[32]⟩ : ByteArray)).size + t2.size ≤ 9223372036854775807
                  · rw [if_pos c23] at H
                    have c23b0 := eq_true c23
                    have c23b1 : decide ((((⟨#[32, 103, 111, 32]⟩ : ByteArray) ++ t1) ++ (⟨#[32]⟩ : ByteArray)).size + t2.size ≤ 9223372036854775807) = true := decide_eq_true c23
                    try have c23b2 : (9223372036854775807 < (((⟨#[32, 103, 111, 32]⟩ : ByteArray) ++ t1) ++ (⟨#[32]⟩ : ByteArray)).size + t2.size) = False := eq_false (Nat.not_lt.2 c23)
                    try have c23b5 : (9223372036854775807 < 4 + t1.size + 1 + t2.size) = False := eq_false (Nat.not_lt.2 (by have h1_ := c23; simp only [ByteArray.size_append] at h1_; exact h1_))
                    by_cases c24 : x4.length + ((((⟨#[32, 103, 111, 32]⟩ : ByteArray) ++ t1) ++ (⟨#[32]⟩ : ByteArray)) ++ t2).size ≤ 140737488355328
                    · rw [if_pos c24] at H
                      have H' := Aside0.mk H
                      clear H
                      have C24 := Aside0.mk c24
                      clear c24
                      obtain ⟨ad, e1, hx0, hx1, hx2⟩ := at_T49 HR0_2.out x5 c17 c16
                      cases e1
                      have X0 := Aside0.mk hx0
                      have X2 := Aside0.mk hx2
                      have p16 := eq_true c16
                      have p17 := eq_true c17
                      clear c16 c17 hx0 hx1 hx2
                      have hcz2 : wr.cell? ⟨gb, 2, none⟩ = some (.slice (some ad) l0_2.length c0_2) := (blk_cell BK.out 2).trans rfl
                      try go_wp2
                      have n0_ := Aside0.mk (blk_drew BK.out)
                      have n1_ := Aside0.mk (below_drew1 HB.out)
                      have n2_ := Aside0.mk (show MyBytes.Own w.heap.size wr.drew _ x4 from HO.out)
                      clear BK HB HO
                      have BK := n0_
                      have HB := n1_
                      have HO := n2_
                      clear n0_ n1_ n2_
                      refine start_ (n := 20) (S := fun w' => w'.cell? ⟨gb, 2, none⟩ = some (.slice (some ad) l0_2.length c0_2) ∧ w'.cell? (ad.add (x5.toNat * 3)) = some (.int .i64 (rd_T49 l0_2 x5).f0) ∧ w'.cell? ⟨(ad.add (x5.toNat * 3)).block, (ad.add (x5.toNat * 3)).off + 2, none⟩ = some (.int .i64 (rd_T49 l0_2 x5).f2)) (ds := []) #[false, false, false, false, false, false, false, false, false, false, false, false, false, false, false, false, false, false, false, false] (by kernel_rfl) rfl rfl ⟨(blk_cell BK.out 2).trans rfl, (HB.out.cell (World.block_lt_of_cell? w _ X0.out)).trans X0.out, (HB.out.cell (World.block_lt_of_cell? w _ X2.out)).trans X2.out⟩ (fun hHeld => ?_)
                      generalize wr.drew = w29 at BK HB HO hHeld ⊢
                      refine pure_ (i := 0) (N := some 28) (v := ?_) (a' := ?_) #[true, false, false, false, false, false, false, false, false, false, false, false, false, false, false, false, false, false, false, false] rfl rfl (by kernel_rfl) (fun _ _ _ h => h) (Or.inl ⟨by rfl, ?_⟩) ?_ ?_
                      rotate_left
                      · intro w'
                        go_simp
                        with_reducible rfl
                      rotate_left
                      · simp only [Act.put, List.setIfInBounds_toArray, List.set_cons_zero, List.set_cons_succ, i64_w, i32_w]
                        rfl
                      refine pure_ (i := 1) (N := some 29) (v := ?_) (a' := ?_) #[true, true, false, false, false, false, false, false, false, false, false, false, false, false, false, false, false, false, false, false] rfl rfl (by kernel_rfl) (fun _ _ _ h => h) (Or.inl ⟨by rfl, ?_⟩) ?_ ?_
                      rotate_left
                      · intro w'
                        go_simp
                        with_reducible rfl
                      rotate_left
                      · simp only [Act.put, List.setIfInBounds_toArray, List.set_cons_zero, List.set_cons_succ, i64_w, i32_w]
                        rfl
                      refine pure_ (i := 3) (N := some 31) (v := ?_) (a' := ?_) #[true, true, false, true, false, false, false, false, false, false, false, false, false, false, false, false, false, false, false, false] rfl rfl (by kernel_rfl) (fun _ _ _ h => h) (Or.inl ⟨by rfl, ?_⟩) ?_ ?_
                      rotate_left
                      · intro w'
                        go_simp
                        with_reducible rfl
                      rotate_left
                      · simp only [Act.put, List.setIfInBounds_toArray, List.set_cons_zero, List.set_cons_succ, i64_w, i32_w]
                        rfl
                      refine pure_ (i := 10) (N := some 38) (v := ?_) (a' := ?_) #[true, true, false, true, false, false, false, false, false, false, true, false, false, false, false, false, false, false, false, false] rfl rfl (by kernel_rfl) (fun _ _ _ h => h) (Or.inl ⟨by rfl, ?_⟩) ?_ ?_
                      rotate_left
                      · intro w'
                        go_simp
                        with_reducible rfl
                      rotate_left
                      · simp only [Act.put, List.setIfInBounds_toArray, List.set_cons_zero, List.set_cons_succ, i64_w, i32_w]
                        rfl
                      refine pure_ (i := 12) (N := some 40) (v := ?_) (a' := ?_) #[true, true, false, true, false, false, false, false, false, false, true, false, true, false, false, false, false, false, false, false] rfl rfl (by kernel_rfl) (fun _ _ _ h => h) (Or.inl ⟨by rfl, ?_⟩) ?_ ?_
                      rotate_left
                      · intro w'
                        go_simp
                        with_reducible rfl
                      rotate_left
                      · simp only [Act.put, List.setIfInBounds_toArray, List.set_cons_zero, List.set_cons_succ, i64_w, i32_w]
                        rfl
                      refine take_ (i := 2) (N := some 30) (v := ?_) (a' := ?_) #[true, true, true, true, false, false, false, false, false, false, true, false, true, false, false, false, false, false, false, false] rfl rfl (by kernel_rfl) (fun _ _ _ h => h) (Or.inl ⟨by rfl, ?_⟩) hHeld ?_ ?_
                      rotate_left
                      · rintro w' ⟨s0, s1, s2⟩
                        go_simp
                        with_reducible rfl
                      rotate_left
                      · simp only [Act.put, List.setIfInBounds_toArray, List.set_cons_zero, List.set_cons_succ, i64_w, i32_w]
                        rfl
                      refine pure_ (i := 4) (N := some 32) (v := ?_) (a' := ?_) #[true, true, true, true, true, false, false, false, false, false, true, false, true, false, false, false, false, false, false, false] rfl rfl (by kernel_rfl) (fun _ _ _ h => h) (Or.inl ⟨by rfl, ?_⟩) ?_ ?_
                      rotate_left
                      · intro w'
                        go_simp
                        with_reducible rfl
                      rotate_left
                      · simp only [Act.put, List.setIfInBounds_toArray, List.set_cons_zero, List.set_cons_succ, i64_w, i32_w]
                        rfl
                      refine pure_ (i := 5) (N := some 33) (v := ?_) (a' := ?_) #[true, true, true, true, true, true, false, false, false, false, true, false, true, false, false, false, false, false, false, false] rfl rfl (by kernel_rfl) (fun _ _ _ h => h) (Or.inl ⟨by rfl, ?_⟩) ?_ ?_
                      rotate_left
                      · intro w'
                        go_simp
                        with_reducible rfl
                      rotate_left
                      · simp only [Act.put, List.setIfInBounds_toArray, List.set_cons_zero, List.set_cons_succ, i64_w, i32_w]
                        rfl
                      refine take_ (i := 6) (N := some 34) (v := ?_) (a' := ?_) #[true, true, true, true, true, true, true, false, false, false, true, false, true, false, false, false, false, false, false, false] rfl rfl (by kernel_rfl) (fun _ _ _ h => h) (Or.inl ⟨by rfl, ?_⟩) hHeld ?_ ?_
                      rotate_left
                      · rintro w' ⟨s0, s1, s2⟩
                        go_simp
                        with_reducible rfl
                      rotate_left
                      · simp only [Act.put, List.setIfInBounds_toArray, List.set_cons_zero, List.set_cons_succ, i64_w, i32_w]
                        rfl
                      refine take_ (i := 11) (N := some 39) (v := ?_) (a' := ?_) #[true, true, true, true, true, true, true, false, false, false, true, true, true, false, false, false, false, false, false, false] rfl rfl (by kernel_rfl) (fun _ _ _ h => h) (Or.inl ⟨by rfl, ?_⟩) hHeld ?_ ?_
                      rotate_left
                      · rintro w' ⟨s0, s1, s2⟩
                        go_simp
                        with_reducible rfl
                      rotate_left
                      · simp only [Act.put, List.setIfInBounds_toArray, List.set_cons_zero, List.set_cons_succ, i64_w, i32_w]
                        rfl
                      refine pure_ (i := 13) (N := some 41) (v := ?_) (a' := ?_) #[true, true, true, true, true, true, true, false, false, false, true, true, true, true, false, false, false, false, false, false] rfl rfl (by kernel_rfl) (fun _ _ _ h => h) (Or.inl ⟨by rfl, ?_⟩) ?_ ?_
                      rotate_left
                      · intro w'
                        go_simp
                        with_reducible rfl
                      rotate_left
                      · simp only [Act.put, List.setIfInBounds_toArray, List.set_cons_zero, List.set_cons_succ, i64_w, i32_w]
                        rfl
                      refine pure_ (i := 14) (N := some 42) (v := ?_) (a' := ?_) #[true, true, true, true, true, true, true, false, false, false, true, true, true, true, true, false, false, false, false, false] rfl rfl (by kernel_rfl) (fun _ _ _ h => h) (Or.inl ⟨by rfl, ?_⟩) ?_ ?_
                      rotate_left
                      · intro w'
                        go_simp
                        with_reducible rfl
                      rotate_left
                      · simp only [Act.put, List.setIfInBounds_toArray, List.set_cons_zero, List.set_cons_succ, i64_w, i32_w]
                        rfl
                      refine take_ (i := 15) (N := some 43) (v := ?_) (a' := ?_) #[true, true, true, true, true, true, true, false, false, false, true, true, true, true, true, true, false, false, false, false] rfl rfl (by kernel_rfl) (fun _ _ _ h => h) (Or.inl ⟨by rfl, ?_⟩) hHeld ?_ ?_
                      rotate_left
                      · rintro w' ⟨s0, s1, s2⟩
                        go_simp
                        with_reducible rfl
                      rotate_left
                      · simp only [Act.put, List.setIfInBounds_toArray, List.set_cons_zero, List.set_cons_succ, i64_w, i32_w]
                        rfl
                      refine one_ (i := 7) (N := some 35) #[true, true, true, true, true, true, true, true, false, false, true, true, true, true, true, true, false, false, false, false] rfl rfl (by kernel_rfl) (by decide) (fun K hK => ?_)
                      refine goes_ Tryd.func19 (by kernel_rfl) rfl #[.int .i64 (rd_T49 l0_2 x5).f0] (by rfl) rfl rfl (by (try simp only [List.map_toArray, List.map_cons, List.map_nil]); first | done | rfl) ?_
                      with_reducible refine (spec_Decimal.calls k2 (rd_T49 l0_2 x5).f0 t1 _ A19.out).mono ?_
                      rintro e w7 ⟨rfl, hb⟩
                      refine ⟨_, rfl, ?_⟩
                      have n0_ := Aside0.mk (blk_below (g := gb) (by first | (with_reducible exact BK.out) | (with_reducible exact blk_drewN BK.out _) | (with_reducible exact blk_drew BK.out) | ((with_reducible repeat (first | refine blk_drewN ?_ _ | refine blk_drew ?_ | refine blk_alloc ?_ _)); exact BK.out)) hb)
                      have n1_ := Aside0.mk (below_step (by repeat (first | (with_reducible first | exact HB.out | apply below_alloc | apply pw_below_drewN | apply below_drew1) | exact HB.out)) hb)
                      have n2_ := Aside0.mk (MyBytes.Own.below HO.out hb)
                      clear BK HB HO hb
                      have BK := n0_
                      have HB := n1_
                      have HO := n2_
                      clear n0_ n1_ n2_
                      refine hK.out _ _ ⟨(blk_cell BK.out 2).trans rfl, (HB.out.cell (World.block_lt_of_cell? w _ X0.out)).trans X0.out, (HB.out.cell (World.block_lt_of_cell? w _ X2.out)).trans X2.out⟩ (fun hHeld => ?_)
                      clear hK K
                      refine norm_ (a' := ?_) ?_ ?_
                      rotate_left
                      · show Act.put _ (some 35) _ = _
                        simp only [Act.put, List.setIfInBounds_toArray, List.set_cons_zero, List.set_cons_succ, i64_w, i32_w]
                        rfl
                      refine pure_ (i := 8) (N := some 36) (v := ?_) (a' := ?_) #[true, true, true, true, true, true, true, true, true, false, true, true, true, true, true, true, false, false, false, false] rfl rfl (by kernel_rfl) (fun _ _ _ h => h) (Or.inl ⟨by rfl, ?_⟩) ?_ ?_
                      rotate_left
                      · intro w'
                        go_simp
                        with_reducible rfl
                      rotate_left
                      · simp only [Act.put, List.setIfInBounds_toArray, List.set_cons_zero, List.set_cons_succ, i64_w, i32_w]
                        rfl
                      refine pure_ (i := 9) (N := some 37) (v := ?_) (a' := ?_) #[true, true, true, true, true, true, true, true, true, true, true, true, true, true, true, true, false, false, false, false] rfl rfl (by kernel_rfl) (fun _ _ _ h => h) (Or.inl ⟨by rfl, ?_⟩) ?_ ?_
                      rotate_left
                      · intro w'
                        go_simp
                        with_reducible rfl
                      rotate_left
                      · simp only [Act.put, List.setIfInBounds_toArray, List.set_cons_zero, List.set_cons_succ, i64_w, i32_w]
                        rfl
                      refine one_ (i := 16) (N := some 44) #[true, true, true, true, true, true, true, true, true, true, true, true, true, true, true, true, true, false, false, false] rfl rfl (by kernel_rfl) (by decide) (fun K hK => ?_)
                      refine goes_ Tryd.func19 (by kernel_rfl) rfl #[.int .i64 (rd_T49 l0_2 x5).f2] (by rfl) rfl rfl (by (try simp only [List.map_toArray, List.map_cons, List.map_nil]); first | done | rfl) ?_
                      with_reducible refine (spec_Decimal.calls k2 (rd_T49 l0_2 x5).f2 t2 _ A22.out).mono ?_
                      rintro e w9 ⟨rfl, hb⟩
                      refine ⟨_, rfl, ?_⟩
                      have n0_ := Aside0.mk (blk_below (g := gb) (by first | (with_reducible exact BK.out) | (with_reducible exact blk_drewN BK.out _) | (with_reducible exact blk_drew BK.out) | ((with_reducible repeat (first | refine blk_drewN ?_ _ | refine blk_drew ?_ | refine blk_alloc ?_ _)); exact BK.out)) hb)
                      have n1_ := Aside0.mk (below_step (by repeat (first | (with_reducible first | exact HB.out | apply below_alloc | apply pw_below_drewN | apply below_drew1) | exact HB.out)) hb)
                      have n2_ := Aside0.mk (MyBytes.Own.below HO.out hb)
                      clear BK HB HO hb
                      have BK := n0_
                      have HB := n1_
                      have HO := n2_
                      clear n0_ n1_ n2_
                      refine hK.out _ _ ⟨(blk_cell BK.out 2).trans rfl, (HB.out.cell (World.block_lt_of_cell? w _ X0.out)).trans X0.out, (HB.out.cell (World.block_lt_of_cell? w _ X2.out)).trans X2.out⟩ (fun hHeld => ?_)
                      clear hK K
                      refine norm_ (a' := ?_) ?_ ?_
                      rotate_left
                      · show Act.put _ (some 44) _ = _
                        simp only [Act.put, List.setIfInBounds_toArray, List.set_cons_zero, List.set_cons_succ, i64_w, i32_w]
                        rfl
                      refine pure_ (i := 17) (N := some 45) (v := ?_) (a' := ?_) #[true, true, true, true, true, true, true, true, true, true, true, true, true, true, true, true, true, true, false, false] rfl rfl (by kernel_rfl) (fun _ _ _ h => h) (Or.inl ⟨by rfl, ?_⟩) ?_ ?_
                      rotate_left
                      · intro w'
                        go_simp
                        with_reducible rfl
                      rotate_left
                      · simp only [Act.put, List.setIfInBounds_toArray, List.set_cons_zero, List.set_cons_succ, i64_w, i32_w]
                        rfl
                      refine one_ (i := 18) (N := some 46) #[true, true, true, true, true, true, true, true, true, true, true, true, true, true, true, true, true, true, true, false] rfl rfl (by kernel_rfl) (by decide) (fun K hK => ?_)
                      refine MyBytes.append_step (B := w.heap.size) (by rfl) (.tmp 28) (.tmp 45) 47 9 rfl i0 hu47 hu9 HI.out HZ0.out HZ1.out HZ2.out rfl HO.out ((((⟨#[32, 103, 111, 32]⟩ : ByteArray) ++ t1) ++ (⟨#[32]⟩ : ByteArray)) ++ t2) (by first | rfl | (go_simp; done)) C24.out ?_
                      intro v7 w46 hown hb hkeep
                      have n0_ := Aside0.mk ((hkeep _ _ _ _ BK.out (by decide)).trans BK.out)
                      have n1_ := Aside0.mk (HB.out.trans hb)
                      have n2_ := Aside0.mk hown
                      clear BK HB HO hown hb hkeep
                      have BK := n0_
                      have HB := n1_
                      have HO := n2_
                      clear n0_ n1_ n2_
                      refine hK.out _ _ ⟨(blk_cell BK.out 2).trans rfl, (HB.out.cell (World.block_lt_of_cell? w _ X0.out)).trans X0.out, (HB.out.cell (World.block_lt_of_cell? w _ X2.out)).trans X2.out⟩ (fun hHeld => ?_)
                      clear hK K
                      refine norm_ (a' := ?_) ?_ ?_
                      rotate_left
                      · show Act.put _ (some 46) _ = _
                        simp only [Act.put, List.setIfInBounds_toArray, List.set_cons_zero, List.set_cons_succ, i64_w, i32_w]
                        rfl
                      refine pure_ (i := 19) (N := some 4) (v := ?_) (a' := ?_) #[true, true, true, true, true, true, true, true, true, true, true, true, true, true, true, true, true, true, true, true] rfl rfl (by kernel_rfl) (fun _ _ _ h => h) (Or.inl ⟨by rfl, ?_⟩) ?_ ?_
                      rotate_left
                      · intro w'
                        go_simp
                        with_reducible rfl
                      rotate_left
                      · simp only [Act.put, List.setIfInBounds_toArray, List.set_cons_zero, List.set_cons_succ, i64_w, i32_w]
                        rfl
                      refine done_ (by kernel_rfl) ?_
                      try go_wp2
                      go_roundg k2
                      case measure => have := HK2.out; omega
                      case rel => exact ⟨x4 ++ ((((⟨#[32, 103, 111, 32]⟩ : ByteArray) ++ t1) ++ (⟨#[32]⟩ : ByteArray)) ++ t2).data.toList, wrap64 (x5 + 1), (by first | rfl | (simp; done)), H', ⟨by have := HK2.out; omega⟩, BK, HB, HO⟩
                    · rw [if_neg c24] at H; exact absurd H (by simp)
                  · rw [if_neg c23] at H; exact absurd H (by simp)
                · rw [if_neg c21] at H; exact absurd H (by simp)
              · rw [if_neg c20] at H; exact absurd H (by simp)
            · rw [if_neg c17] at H; exact absurd H (by simp)
          · rw [if_neg c16] at H
            have c16b0 : decide (x5 < (l0_2.length : Int)) = false := decide_eq_false c16
            clear c16
            obtain rfl := Option.some.inj H
            clear H
            have hcz2 : wr.cell? ⟨gb, 2, none⟩ = some (.slice A0_2 l0_2.length c0_2) := (blk_cell BK.out 2).trans rfl
            go_wp2_with ((with_reducible refine gate_dst (N := 48) rfl ?_); refine MyBytes.back_event (B := w.heap.size) rfl rfl rfl hu47 hu5 hu9 HO.out ?_)
            go_ret
            exact ⟨rfl, HB.out⟩
    · rw [if_neg c9] at H
      have c9b0 : (a0_1 == 0) = false := beq_eq_false_iff_ne.mpr c9
      have c9b1 : (a0_1 != 0) = true := bne_iff_ne.mpr c9
      clear c9
      obtain ⟨t1, A100, H2_⟩ := Option.bind_eq_some_iff.mp H
      clear H
      have H := H2_
      clear H2_
      have A10 := Aside0.mk A100
      clear A100
      by_cases c11 : ((⟨#[99, 111, 100, 101, 32]⟩ : ByteArray) ++ t0).size + 8 ≤ 9223372036854775807
      · rw [if_pos c11] at H
        have c11b0 := eq_true c11
        have c11b1 : decide (((⟨#[99, 111, 100, 101, 32]⟩ : ByteArray) ++ t0).size + 8 ≤ 9223372036854775807) = true := decide_eq_true c11
        try have c11b2 : (9223372036854775807 < ((⟨#[99, 111, 100, 101, 32]⟩ : ByteArray) ++ t0).size + 8) = False := eq_false (Nat.not_lt.2 c11)
        try have c11b5 : (9223372036854775807 < 5 + t0.size + 8) = False := eq_false (Nat.not_lt.2 (by have h1_ := c11; simp only [ByteArray.size_append] at h1_; exact h1_))
        by_cases c12 : (((⟨#[99, 111, 100, 101, 32]⟩ : ByteArray) ++ t0) ++ (⟨#[32, 115, 116, 97, 116, 117, 115, 32]⟩ : ByteArray)).size + t1.size ≤ 9223372036854775807
        · rw [if_pos c12] at H
          have c12b0 := eq_true c12
          have c12b1 : decide ((((⟨#[99, 111, 100, 101, 32]⟩ : ByteArray) ++ t0) ++ (⟨#[32, 115, 116, 97, 116, 117, 115, 32]⟩ : ByteArray)).size + t1.size ≤ 9223372036854775807) = true := decide_eq_true c12
          try have c12b2 : (9223372036854775807 < (((⟨#[99, 111, 100, 101, 32]⟩ : ByteArray) ++ t0) ++ (⟨#[32, 115, 116, 97, 116, 117, 115, 32]⟩ : ByteArray)).size + t1.size) = False := eq_false (Nat.not_lt.2 c12)
          try have c12b5 : (9223372036854775807 < 5 + t0.size + 8 + t1.size) = False := eq_false (Nat.not_lt.2 (by have h1_ := c12; simp only [ByteArray.size_append] at h1_; exact h1_))
          have HSZ := Aside0.mk (show ((((⟨#[99, 111, 100, 101, 32]⟩ : ByteArray) ++ t0) ++ (⟨#[32, 115, 116, 97, 116, 117, 115, 32]⟩ : ByteArray)) ++ t1).size ≤ maxLen from by unfold maxLen; rw [ByteArray.size_append]; exact c12)
          have H' := Aside0.mk H
          clear H
          go_enter Tryd.func7, Tryd.ntmps7
          go_wp2_with (first | ((with_reducible refine gate_dst (N := 1) rfl ?_); refine box_event ?hg (N := 1) ?hd (cs := #[.int .i64 a0_0, .int .i64 a0_1, .slice A0_2 l0_2.length c0_2]) (t := 29) ?hr ?_; (case hd => rfl); (case hg => rfl); (case hr => first | (go_simp; done) | (go_simp; rfl)); intro gb hg w5 hbox hb; have n0_ := Aside0.mk (below_step (by repeat (first | (with_reducible first | exact HB.out | apply below_alloc | apply pw_below_drewN | apply below_drew1) | exact HB.out)) hb); have n1_ := Aside0.mk (hbox); have n2_ := Aside0.mk ((by rw [hg]; exact (below_size (by repeat (first | (with_reducible first | exact HB.out | apply below_alloc | apply pw_below_drewN | apply below_drew1) | exact HB.out)))) : w.heap.size ≤ gb); clear HB; have HB := n0_; have BK := n1_; have GE := n2_; clear n0_ n1_ n2_; clear hb hbox hg; (try clear hcz0 hcz1 hcz2); have hcz0 : w5.cell? ⟨gb, 0, none⟩ = some (.int .i64 a0_0) := (blk_cell BK.out 0).trans rfl; have hcz1 : w5.cell? ⟨gb, 1, none⟩ = some (.int .i64 a0_1) := (blk_cell BK.out 1).trans rfl; have hcz2 : w5.cell? ⟨gb, 2, none⟩ = some (.slice A0_2 l0_2.length c0_2) := (blk_cell BK.out 2).trans rfl) | ((with_reducible refine gate_callee (f := 19) rfl ?_); refine goesL_ (some 8) rfl rfl Tryd.func19 (by kernel_rfl) rfl #[.int .i64 a0_0] rfl (by (try simp only [List.map_toArray, List.map_cons, List.map_nil]); first | done | rfl) ?_; (with_reducible refine (spec_Decimal.calls k a0_0 t0 _ A2.out).mono ?_); rintro e w7 ⟨rfl, hb⟩; refine ⟨_, rfl, ?_⟩; have n0_ := Aside0.mk (blk_below (g := gb) (by first | (with_reducible exact BK.out) | (with_reducible exact blk_drewN BK.out _) | (with_reducible exact blk_drew BK.out) | ((with_reducible repeat (first | refine blk_drewN ?_ _ | refine blk_drew ?_ | refine blk_alloc ?_ _)); exact BK.out)) hb); have n1_ := Aside0.mk (below_step (by repeat (first | (with_reducible first | exact HB.out | apply below_alloc | apply pw_below_drewN | apply below_drew1) | exact HB.out)) hb); clear BK; clear HB; have BK := n0_; have HB := n1_; clear n0_ n1_; clear hb; (try clear hcz0 hcz1 hcz2); have hcz0 : w7.cell? ⟨gb, 0, none⟩ = some (.int .i64 a0_0) := (blk_cell BK.out 0).trans rfl; have hcz1 : w7.cell? ⟨gb, 1, none⟩ = some (.int .i64 a0_1) := (blk_cell BK.out 1).trans rfl; have hcz2 : w7.cell? ⟨gb, 2, none⟩ = some (.slice A0_2 l0_2.length c0_2) := (blk_cell BK.out 2).trans rfl) | ((with_reducible refine gate_callee (f := 19) rfl ?_); refine goesL_ (some 17) rfl rfl Tryd.func19 (by kernel_rfl) rfl #[.int .i64 a0_1] rfl (by (try simp only [List.map_toArray, List.map_cons, List.map_nil]); first | done | rfl) ?_; (with_reducible refine (spec_Decimal.calls k a0_1 t1 _ A10.out).mono ?_); rintro e w14 ⟨rfl, hb⟩; refine ⟨_, rfl, ?_⟩; have n0_ := Aside0.mk (blk_below (g := gb) (by first | (with_reducible exact BK.out) | (with_reducible exact blk_drewN BK.out _) | (with_reducible exact blk_drew BK.out) | ((with_reducible repeat (first | refine blk_drewN ?_ _ | refine blk_drew ?_ | refine blk_alloc ?_ _)); exact BK.out)) hb); have n1_ := Aside0.mk (below_step (by repeat (first | (with_reducible first | exact HB.out | apply below_alloc | apply pw_below_drewN | apply below_drew1) | exact HB.out)) hb); clear BK; clear HB; have BK := n0_; have HB := n1_; clear n0_ n1_; clear hb; (try clear hcz0 hcz1 hcz2); have hcz0 : w14.cell? ⟨gb, 0, none⟩ = some (.int .i64 a0_0) := (blk_cell BK.out 0).trans rfl; have hcz1 : w14.cell? ⟨gb, 1, none⟩ = some (.int .i64 a0_1) := (blk_cell BK.out 1).trans rfl; have hcz2 : w14.cell? ⟨gb, 2, none⟩ = some (.slice A0_2 l0_2.length c0_2) := (blk_cell BK.out 2).trans rfl) | ((with_reducible refine gate_dst (N := 20) rfl ?_); refine MyBytes.conv_event (s := (((⟨#[99, 111, 100, 101, 32]⟩ : ByteArray) ++ t0) ++ (⟨#[32, 115, 116, 97, 116, 117, 115, 32]⟩ : ByteArray)) ++ t1) rfl rfl (by first | rfl | (go_simp; done)) hu9 hu47 hu5 (by first | exact HSZ.out | (unfold maxLen; exact HSZ.out)) ?_; intro v4 w40 hown hb; have n0_ := Aside0.mk (blk_below (g := gb) (by first | (with_reducible exact BK.out) | (with_reducible exact blk_drewN BK.out _) | (with_reducible exact blk_drew BK.out) | ((with_reducible repeat (first | refine blk_drewN ?_ _ | refine blk_drew ?_ | refine blk_alloc ?_ _)); exact BK.out)) hb); have n1_ := Aside0.mk (below_step (by repeat (first | (with_reducible first | exact HB.out | apply below_alloc | apply pw_below_drewN | apply below_drew1) | exact HB.out)) hb); have HO := Aside0.mk (MyBytes.Own.base hown (below_size (by repeat (first | (with_reducible first | exact HB.out | apply below_alloc | apply pw_below_drewN | apply below_drew1) | exact HB.out)))); clear BK; clear HB; have BK := n0_; have HB := n1_; clear n0_ n1_ hown hb; (try clear hcz0 hcz1 hcz2); have hcz0 : w40.cell? ⟨gb, 0, none⟩ = some (.int .i64 a0_0) := (blk_cell BK.out 0).trans rfl; have hcz1 : w40.cell? ⟨gb, 1, none⟩ = some (.int .i64 a0_1) := (blk_cell BK.out 1).trans rfl; have hcz2 : w40.cell? ⟨gb, 2, none⟩ = some (.slice A0_2 l0_2.length c0_2) := (blk_cell BK.out 2).trans rfl))
          generalize ((((⟨#[99, 111, 100, 101, 32]⟩ : ByteArray) ++ t0) ++ (⟨#[32, 115, 116, 97, 116, 117, 115, 32]⟩ : ByteArray)) ++ t1).data.toList = xs0 at HO H'
          (try clear c3 c3b0 c3b1)
          (try clear c3b2)
          (try clear c9b0 c9b1)
          (try clear c11 c11b0 c11b1)
          (try clear c11b2)
          (try clear c12 c12b0 c12b1)
          (try clear c12b2)
          clear HSZ
          go_wp2
          go_loopg [4, 5] k (fun kq v4 v5 w' => ∃ (x4 : List UInt8) (x5 : Int), v5 = .int .i64 x5 ∧ Aside0 (spec_ReplyText.l0 kq x4 l0_2 x5 = some r) ∧ Aside0 (kq ≤ k) ∧ Aside0 (w'.heap[gb]? = some (.cells #[.int .i64 a0_0, .int .i64 a0_1, .slice A0_2 l0_2.length c0_2] 29 (0, 0))) ∧ Aside0 (Below w.heap.size w w') ∧ Aside0 (MyBytes.Own w.heap.size w' v4 x4))
          case atStart => exact ⟨xs0, 0, (by first | rfl | (simp; done)), H', ⟨Nat.le_refl _⟩, BK, HB, HO⟩
          case round =>
            clear H' BK HB HO
            (try clear hcz0 hcz1 hcz2)
            (try clear A2)
            (try clear A10)
            obtain ⟨x4, x5, rfl, HA, HK2, BK, HB, HO⟩ := hrel
            cases gk with
            | zero => exact absurd HA.out (by simp [spec_ReplyText.l0])
            | succ k2 =>
              have H := HA.out
              clear HA
              simp only [spec_ReplyText.l0] at H
              by_cases c16 : x5 < (l0_2.length : Int)
              · rw [if_pos c16] at H
                have c16b0 : decide (x5 < (l0_2.length : Int)) = true := decide_eq_true c16
                by_cases c17 : 0 ≤ x5
                · rw [if_pos c17] at H
                  have c17b0 : decide (0 ≤ x5) = true := decide_eq_true c17
                  obtain ⟨t1, A190, H2_⟩ := Option.bind_eq_some_iff.mp H
                  clear H
                  have H := H2_
                  clear H2_
                  have A19 := Aside0.mk A190
                  clear A190
                  by_cases c20 : 4 + t1.size ≤ 9223372036854775807
                  · rw [if_pos c20] at H
                    have c20b0 := eq_true c20
                    have c20b1 : decide (4 + t1.size ≤ 9223372036854775807) = true := decide_eq_true c20
                    try have c20b2 : (9223372036854775807 < 4 + t1.size) = False := eq_false (Nat.not_lt.2 c20)
                    by_cases c21 : ((⟨#[32, 103, 111, 32]⟩ : ByteArray) ++ t1).size + 1 ≤ 9223372036854775807
                    · rw [if_pos c21] at H
                      have c21b0 := eq_true c21
                      have c21b1 : decide (((⟨#[32, 103, 111, 32]⟩ : ByteArray) ++ t1).size + 1 ≤ 9223372036854775807) = true := decide_eq_true c21
                      try have c21b2 : (9223372036854775807 < ((⟨#[32, 103, 111, 32]⟩ : ByteArray) ++ t1).size + 1) = False := eq_false (Nat.not_lt.2 c21)
                      try have c21b5 : (9223372036854775807 < 4 + t1.size + 1) = False := eq_false (Nat.not_lt.2 (by have h1_ := c21; simp only [ByteArray.size_append] at h1_; exact h1_))
                      obtain ⟨t2, A220, H2_⟩ := Option.bind_eq_some_iff.mp H
                      clear H
                      have H := H2_
                      clear H2_
                      have A22 := Aside0.mk A220
                      clear A220
                      by_cases c23 : (((⟨#[32, 103, 111, 32]⟩ : ByteArray) ++ t1) ++ (⟨#[32]⟩ : ByteArray)).size + t2.size ≤ 9223372036854775807
                      · rw [if_pos c23] at H
                        have c23b0 := eq_true c23
                        have c23b1 : decide ((((⟨#[32, 103, 111, 32]⟩ : ByteArray) ++ t1) ++ (⟨#[32]⟩ : ByteArray)).size + t2.size ≤ 9223372036854775807) = true := decide_eq_true c23
                        try have c23b2 : (9223372036854775807 < (((⟨#[32, 103, 111, 32]⟩ : ByteArray) ++ t1) ++ (⟨#[32]⟩ : ByteArray)).size + t2.size) = False := eq_false (Nat.not_lt.2 c23)
                        try have c23b5 : (9223372036854775807 < 4 + t1.size + 1 + t2.size) = False := eq_false (Nat.not_lt.2 (by have h1_ := c23; simp only [ByteArray.size_append] at h1_; exact h1_))
                        by_cases c24 : x4.length + ((((⟨#[32, 103, 111, 32]⟩ : ByteArray) ++ t1) ++ (⟨#[32]⟩ : ByteArray)) ++ t2).size ≤ 140737488355328
                        · rw [if_pos c24] at H
                          have H' := Aside0.mk H
                          clear H
                          have C24 := Aside0.mk c24
                          clear c24
                          obtain ⟨ad, e1, hx0, hx1, hx2⟩ := at_T49 HR0_2.out x5 c17 c16
                          cases e1
                          have X0 := Aside0.mk hx0
                          have X2 := Aside0.mk hx2
                          have p16 := eq_true c16
                          have p17 := eq_true c17
                          clear c16 c17 hx0 hx1 hx2
                          have hcz2 : wr.cell? ⟨gb, 2, none⟩ = some (.slice (some ad) l0_2.length c0_2) := (blk_cell BK.out 2).trans rfl
                          try go_wp2
                          have n0_ := Aside0.mk (blk_drew BK.out)
                          have n1_ := Aside0.mk (below_drew1 HB.out)
                          have n2_ := Aside0.mk (show MyBytes.Own w.heap.size wr.drew _ x4 from HO.out)
                          clear BK HB HO
                          have BK := n0_
                          have HB := n1_
                          have HO := n2_
                          clear n0_ n1_ n2_
                          refine start_ (n := 20) (S := fun w' => w'.cell? ⟨gb, 2, none⟩ = some (.slice (some ad) l0_2.length c0_2) ∧ w'.cell? (ad.add (x5.toNat * 3)) = some (.int .i64 (rd_T49 l0_2 x5).f0) ∧ w'.cell? ⟨(ad.add (x5.toNat * 3)).block, (ad.add (x5.toNat * 3)).off + 2, none⟩ = some (.int .i64 (rd_T49 l0_2 x5).f2)) (ds := []) #[false, false, false, false, false, false, false, false, false, false, false, false, false, false, false, false, false, false, false, false] (by kernel_rfl) rfl rfl ⟨(blk_cell BK.out 2).trans rfl, (HB.out.cell (World.block_lt_of_cell? w _ X0.out)).trans X0.out, (HB.out.cell (World.block_lt_of_cell? w _ X2.out)).trans X2.out⟩ (fun hHeld => ?_)
                          generalize wr.drew = w29 at BK HB HO hHeld ⊢
                          refine pure_ (i := 0) (N := some 28) (v := ?_) (a' := ?_) #[true, false, false, false, false, false, false, false, false, false, false, false, false, false, false, false, false, false, false, false] rfl rfl (by kernel_rfl) (fun _ _ _ h => h) (Or.inl ⟨by rfl, ?_⟩) ?_ ?_
                          rotate_left
                          · intro w'
                            go_simp
                            with_reducible rfl
                          rotate_left
                          · simp only [Act.put, List.setIfInBounds_toArray, List.set_cons_zero, List.set_cons_succ, i64_w, i32_w]
                            rfl
                          refine pure_ (i := 1) (N := some 29) (v := ?_) (a' := ?_) #[true, true, false, false, false, false, false, false, false, false, false, false, false, false, false, false, false, false, false, false] rfl rfl (by kernel_rfl) (fun _ _ _ h => h) (Or.inl ⟨by rfl, ?_⟩) ?_ ?_
                          rotate_left
                          · intro w'
                            go_simp
                            with_reducible rfl
                          rotate_left
                          · simp only [Act.put, List.setIfInBounds_toArray, List.set_cons_zero, List.set_cons_succ, i64_w, i32_w]
                            rfl
                          refine pure_ (i := 3) (N := some 31) (v := ?_) (a' := ?_) #[true, true, false, true, false, false, false, false, false, false, false, false, false, false, false, false, false, false, false, false] rfl rfl (by kernel_rfl) (fun _ _ _ h => h) (Or.inl ⟨by rfl, ?_⟩) ?_ ?_
                          rotate_left
                          · intro w'
                            go_simp
                            with_reducible rfl
                          rotate_left
                          · simp only [Act.put, List.setIfInBounds_toArray, List.set_cons_zero, List.set_cons_succ, i64_w, i32_w]
                            rfl
                          refine pure_ (i := 10) (N := some 38) (v := ?_) (a' := ?_) #[true, true, false, true, false, false, false, false, false, false, true, false, false, false, false, false, false, false, false, false] rfl rfl (by kernel_rfl) (fun _ _ _ h => h) (Or.inl ⟨by rfl, ?_⟩) ?_ ?_
                          rotate_left
                          · intro w'
                            go_simp
                            with_reducible rfl
                          rotate_left
                          · simp only [Act.put, List.setIfInBounds_toArray, List.set_cons_zero, List.set_cons_succ, i64_w, i32_w]
                            rfl
                          refine pure_ (i := 12) (N := some 40) (v := ?_) (a' := ?_) #[true, true, false, true, false, false, false, false, false, false, true, false, true, false, false, false, false, false, false, false] rfl rfl (by kernel_rfl) (fun _ _ _ h => h) (Or.inl ⟨by rfl, ?_⟩) ?_ ?_
                          rotate_left
                          · intro w'
                            go_simp
                            with_reducible rfl
                          rotate_left
                          · simp only [Act.put, List.setIfInBounds_toArray, List.set_cons_zero, List.set_cons_succ, i64_w, i32_w]
                            rfl
                          refine take_ (i := 2) (N := some 30) (v := ?_) (a' := ?_) #[true, true, true, true, false, false, false, false, false, false, true, false, true, false, false, false, false, false, false, false] rfl rfl (by kernel_rfl) (fun _ _ _ h => h) (Or.inl ⟨by rfl, ?_⟩) hHeld ?_ ?_
                          rotate_left
                          · rintro w' ⟨s0, s1, s2⟩
                            go_simp
                            with_reducible rfl
                          rotate_left
                          · simp only [Act.put, List.setIfInBounds_toArray, List.set_cons_zero, List.set_cons_succ, i64_w, i32_w]
                            rfl
                          refine pure_ (i := 4) (N := some 32) (v := ?_) (a' := ?_) #[true, true, true, true, true, false, false, false, false, false, true, false, true, false, false, false, false, false, false, false] rfl rfl (by kernel_rfl) (fun _ _ _ h => h) (Or.inl ⟨by rfl, ?_⟩) ?_ ?_
                          rotate_left
                          · intro w'
                            go_simp
                            with_reducible rfl
                          rotate_left
                          · simp only [Act.put, List.setIfInBounds_toArray, List.set_cons_zero, List.set_cons_succ, i64_w, i32_w]
                            rfl
                          refine pure_ (i := 5) (N := some 33) (v := ?_) (a' := ?_) #[true, true, true, true, true, true, false, false, false, false, true, false, true, false, false, false, false, false, false, false] rfl rfl (by kernel_rfl) (fun _ _ _ h => h) (Or.inl ⟨by rfl, ?_⟩) ?_ ?_
                          rotate_left
                          · intro w'
                            go_simp
                            with_reducible rfl
                          rotate_left
                          · simp only [Act.put, List.setIfInBounds_toArray, List.set_cons_zero, List.set_cons_succ, i64_w, i32_w]
                            rfl
                          refine take_ (i := 6) (N := some 34) (v := ?_) (a' := ?_) #[true, true, true, true, true, true, true, false, false, false, true, false, true, false, false, false, false, false, false, false] rfl rfl (by kernel_rfl) (fun _ _ _ h => h) (Or.inl ⟨by rfl, ?_⟩) hHeld ?_ ?_
                          rotate_left
                          · rintro w' ⟨s0, s1, s2⟩
                            go_simp
                            with_reducible rfl
                          rotate_left
                          · simp only [Act.put, List.setIfInBounds_toArray, List.set_cons_zero, List.set_cons_succ, i64_w, i32_w]
                            rfl
                          refine take_ (i := 11) (N := some 39) (v := ?_) (a' := ?_) #[true, true, true, true, true, true, true, false, false, false, true, true, true, false, false, false, false, false, false, false] rfl rfl (by kernel_rfl) (fun _ _ _ h => h) (Or.inl ⟨by rfl, ?_⟩) hHeld ?_ ?_
                          rotate_left
                          · rintro w' ⟨s0, s1, s2⟩
                            go_simp
                            with_reducible rfl
                          rotate_left
                          · simp only [Act.put, List.setIfInBounds_toArray, List.set_cons_zero, List.set_cons_succ, i64_w, i32_w]
                            rfl
                          refine pure_ (i := 13) (N := some 41) (v := ?_) (a' := ?_) #[true, true, true, true, true, true, true, false, false, false, true, true, true, true, false, false, false, false, false, false] rfl rfl (by kernel_rfl) (fun _ _ _ h => h) (Or.inl ⟨by rfl, ?_⟩) ?_ ?_
                          rotate_left
                          · intro w'
                            go_simp
                            with_reducible rfl
                          rotate_left
                          · simp only [Act.put, List.setIfInBounds_toArray, List.set_cons_zero, List.set_cons_succ, i64_w, i32_w]
                            rfl
                          refine pure_ (i := 14) (N := some 42) (v := ?_) (a' := ?_) #[true, true, true, true, true, true, true, false, false, false, true, true, true, true, true, false, false, false, false, false] rfl rfl (by kernel_rfl) (fun _ _ _ h => h) (Or.inl ⟨by rfl, ?_⟩) ?_ ?_
                          rotate_left
                          · intro w'
                            go_simp
                            with_reducible rfl
                          rotate_left
                          · simp only [Act.put, List.setIfInBounds_toArray, List.set_cons_zero, List.set_cons_succ, i64_w, i32_w]
                            rfl
                          refine take_ (i := 15) (N := some 43) (v := ?_) (a' := ?_) #[true, true, true, true, true, true, true, false, false, false, true, true, true, true, true, true, false, false, false, false] rfl rfl (by kernel_rfl) (fun _ _ _ h => h) (Or.inl ⟨by rfl, ?_⟩) hHeld ?_ ?_
                          rotate_left
                          · rintro w' ⟨s0, s1, s2⟩
                            go_simp
                            with_reducible rfl
                          rotate_left
                          · simp only [Act.put, List.setIfInBounds_toArray, List.set_cons_zero, List.set_cons_succ, i64_w, i32_w]
                            rfl
                          refine one_ (i := 7) (N := some 35) #[true, true, true, true, true, true, true, true, false, false, true, true, true, true, true, true, false, false, false, false] rfl rfl (by kernel_rfl) (by decide) (fun K hK => ?_)
                          refine goes_ Tryd.func19 (by kernel_rfl) rfl #[.int .i64 (rd_T49 l0_2 x5).f0] (by rfl) rfl rfl (by (try simp only [List.map_toArray, List.map_cons, List.map_nil]); first | done | rfl) ?_
                          with_reducible refine (spec_Decimal.calls k2 (rd_T49 l0_2 x5).f0 t1 _ A19.out).mono ?_
                          rintro e w7 ⟨rfl, hb⟩
                          refine ⟨_, rfl, ?_⟩
                          have n0_ := Aside0.mk (blk_below (g := gb) (by first | (with_reducible exact BK.out) | (with_reducible exact blk_drewN BK.out _) | (with_reducible exact blk_drew BK.out) | ((with_reducible repeat (first | refine blk_drewN ?_ _ | refine blk_drew ?_ | refine blk_alloc ?_ _)); exact BK.out)) hb)
                          have n1_ := Aside0.mk (below_step (by repeat (first | (with_reducible first | exact HB.out | apply below_alloc | apply pw_below_drewN | apply below_drew1) | exact HB.out)) hb)
                          have n2_ := Aside0.mk (MyBytes.Own.below HO.out hb)
                          clear BK HB HO hb
                          have BK := n0_
                          have HB := n1_
                          have HO := n2_
                          clear n0_ n1_ n2_
                          refine hK.out _ _ ⟨(blk_cell BK.out 2).trans rfl, (HB.out.cell (World.block_lt_of_cell? w _ X0.out)).trans X0.out, (HB.out.cell (World.block_lt_of_cell? w _ X2.out)).trans X2.out⟩ (fun hHeld => ?_)
                          clear hK K
                          refine norm_ (a' := ?_) ?_ ?_
                          rotate_left
                          · show Act.put _ (some 35) _ = _
                            simp only [Act.put, List.setIfInBounds_toArray, List.set_cons_zero, List.set_cons_succ, i64_w, i32_w]
                            rfl
                          refine pure_ (i := 8) (N := some 36) (v := ?_) (a' := ?_) #[true, true, true, true, true, true, true, true, true, false, true, true, true, true, true, true, false, false, false, false] rfl rfl (by kernel_rfl) (fun _ _ _ h => h) (Or.inl ⟨by rfl, ?_⟩) ?_ ?_
                          rotate_left
                          · intro w'
                            go_simp
                            with_reducible rfl
                          rotate_left
                          · simp only [Act.put, List.setIfInBounds_toArray, List.set_cons_zero, List.set_cons_succ, i64_w, i32_w]
                            rfl
                          refine pure_ (i := 9) (N := some 37) (v := ?_) (a' := ?_) #[true, true, true, true, true, true, true, true, true, true, true, true, true, true, true, true, false, false, false, false] rfl rfl (by kernel_rfl) (fun _ _ _ h => h) (Or.inl ⟨by rfl, ?_⟩) ?_ ?_
                          rotate_left
                          · intro w'
                            go_simp
                            with_reducible rfl
                          rotate_left
                          · simp only [Act.put, List.setIfInBounds_toArray, List.set_cons_zero, List.set_cons_succ, i64_w, i32_w]
                            rfl
                          refine one_ (i := 16) (N := some 44) #[true, true, true, true, true, true, true, true, true, true, true, true, true, true, true, true, true, false, false, false] rfl rfl (by kernel_rfl) (by decide) (fun K hK => ?_)
                          refine goes_ Tryd.func19 (by kernel_rfl) rfl #[.int .i64 (rd_T49 l0_2 x5).f2] (by rfl) rfl rfl (by (try simp only [List.map_toArray, List.map_cons, List.map_nil]); first | done | rfl) ?_
                          with_reducible refine (spec_Decimal.calls k2 (rd_T49 l0_2 x5).f2 t2 _ A22.out).mono ?_
                          rintro e w9 ⟨rfl, hb⟩
                          refine ⟨_, rfl, ?_⟩
                          have n0_ := Aside0.mk (blk_below (g := gb) (by first | (with_reducible exact BK.out) | (with_reducible exact blk_drewN BK.out _) | (with_reducible exact blk_drew BK.out) | ((with_reducible repeat (first | refine blk_drewN ?_ _ | refine blk_drew ?_ | refine blk_alloc ?_ _)); exact BK.out)) hb)
                          have n1_ := Aside0.mk (below_step (by repeat (first | (with_reducible first | exact HB.out | apply below_alloc | apply pw_below_drewN | apply below_drew1) | exact HB.out)) hb)
                          have n2_ := Aside0.mk (MyBytes.Own.below HO.out hb)
                          clear BK HB HO hb
                          have BK := n0_
                          have HB := n1_
                          have HO := n2_
                          clear n0_ n1_ n2_
                          refine hK.out _ _ ⟨(blk_cell BK.out 2).trans rfl, (HB.out.cell (World.block_lt_of_cell? w _ X0.out)).trans X0.out, (HB.out.cell (World.block_lt_of_cell? w _ X2.out)).trans X2.out⟩ (fun hHeld => ?_)
                          clear hK K
                          refine norm_ (a' := ?_) ?_ ?_
                          rotate_left
                          · show Act.put _ (some 44) _ = _
                            simp only [Act.put, List.setIfInBounds_toArray, List.set_cons_zero, List.set_cons_succ, i64_w, i32_w]
                            rfl
                          refine pure_ (i := 17) (N := some 45) (v := ?_) (a' := ?_) #[true, true, true, true, true, true, true, true, true, true, true, true, true, true, true, true, true, true, false, false] rfl rfl (by kernel_rfl) (fun _ _ _ h => h) (Or.inl ⟨by rfl, ?_⟩) ?_ ?_
                          rotate_left
                          · intro w'
                            go_simp
                            with_reducible rfl
                          rotate_left
                          · simp only [Act.put, List.setIfInBounds_toArray, List.set_cons_zero, List.set_cons_succ, i64_w, i32_w]
                            rfl
                          refine one_ (i := 18) (N := some 46) #[true, true, true, true, true, true, true, true, true, true, true, true, true, true, true, true, true, true, true, false] rfl rfl (by kernel_rfl) (by decide) (fun K hK => ?_)
                          refine MyBytes.append_step (B := w.heap.size) (by rfl) (.tmp 28) (.tmp 45) 47 9 rfl i0 hu47 hu9 HI.out HZ0.out HZ1.out HZ2.out rfl HO.out ((((⟨#[32, 103, 111, 32]⟩ : ByteArray) ++ t1) ++ (⟨#[32]⟩ : ByteArray)) ++ t2) (by first | rfl | (go_simp; done)) C24.out ?_
                          intro v7 w46 hown hb hkeep
                          have n0_ := Aside0.mk ((hkeep _ _ _ _ BK.out (by decide)).trans BK.out)
                          have n1_ := Aside0.mk (HB.out.trans hb)
                          have n2_ := Aside0.mk hown
                          clear BK HB HO hown hb hkeep
                          have BK := n0_
                          have HB := n1_
                          have HO := n2_
                          clear n0_ n1_ n2_
                          refine hK.out _ _ ⟨(blk_cell BK.out 2).trans rfl, (HB.out.cell (World.block_lt_of_cell? w _ X0.out)).trans X0.out, (HB.out.cell (World.block_lt_of_cell? w _ X2.out)).trans X2.out⟩ (fun hHeld => ?_)
                          clear hK K
                          refine norm_ (a' := ?_) ?_ ?_
                          rotate_left
                          · show Act.put _ (some 46) _ = _
                            simp only [Act.put, List.setIfInBounds_toArray, List.set_cons_zero, List.set_cons_succ, i64_w, i32_w]
                            rfl
                          refine pure_ (i := 19) (N := some 4) (v := ?_) (a' := ?_) #[true, true, true, true, true, true, true, true, true, true, true, true, true, true, true, true, true, true, true, true] rfl rfl (by kernel_rfl) (fun _ _ _ h => h) (Or.inl ⟨by rfl, ?_⟩) ?_ ?_
                          rotate_left
                          · intro w'
                            go_simp
                            with_reducible rfl
                          rotate_left
                          · simp only [Act.put, List.setIfInBounds_toArray, List.set_cons_zero, List.set_cons_succ, i64_w, i32_w]
                            rfl
                          refine done_ (by kernel_rfl) ?_
                          try go_wp2
                          go_roundg k2
                          case measure => have := HK2.out; omega
                          case rel => exact ⟨x4 ++ ((((⟨#[32, 103, 111, 32]⟩ : ByteArray) ++ t1) ++ (⟨#[32]⟩ : ByteArray)) ++ t2).data.toList, wrap64 (x5 + 1), (by first | rfl | (simp; done)), H', ⟨by have := HK2.out; omega⟩, BK, HB, HO⟩
                        · rw [if_neg c24] at H; exact absurd H (by simp)
                      · rw [if_neg c23] at H; exact absurd H (by simp)
                    · rw [if_neg c21] at H; exact absurd H (by simp)
                  · rw [if_neg c20] at H; exact absurd H (by simp)
                · rw [if_neg c17] at H; exact absurd H (by simp)
              · rw [if_neg c16] at H
                have c16b0 : decide (x5 < (l0_2.length : Int)) = false := decide_eq_false c16
                clear c16
                obtain rfl := Option.some.inj H
                clear H
                have hcz2 : wr.cell? ⟨gb, 2, none⟩ = some (.slice A0_2 l0_2.length c0_2) := (blk_cell BK.out 2).trans rfl
                go_wp2_with ((with_reducible refine gate_dst (N := 48) rfl ?_); refine MyBytes.back_event (B := w.heap.size) rfl rfl rfl hu47 hu5 hu9 HO.out ?_)
                go_ret
                exact ⟨rfl, HB.out⟩
        · rw [if_neg c12] at H; exact absurd H (by simp)
      · rw [if_neg c11] at H; exact absurd H (by simp)
  · rw [if_neg c3] at H; exact absurd H (by simp)


end Go.Proofs.YtomchkdbhcakoaaDoor.MFnExactReplyText
