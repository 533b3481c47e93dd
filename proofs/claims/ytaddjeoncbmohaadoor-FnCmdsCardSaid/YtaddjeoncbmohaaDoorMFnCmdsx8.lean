/- Made by a program of this session (out of the kit's print, with hand-made contracts): what each Go function that the law reaches computes, and that the machine's call does so. -/
import Derived.Test.YtaddjeoncbmohaaDoorMFnCmdsx0
import Derived.Test.YtaddjeoncbmohaaDoorMFnCmdsx3
import Derived.Test.YtaddjeoncbmohaaDoorMFnCmdsx6
import Derived.Test.YtaddjeoncbmohaaDoorMFnCmdsx7
namespace Go.Proofs.YtaddjeoncbmohaaDoor.MFnCmds
open Go.RowKit Go.Proofs.YtaddjeoncbmohaaDoorW.PrintWords Go.Proofs.YtaddjeoncbmohaaDoorW.PrintLast Go.Proofs.YtaddjeoncbmohaaDoorW.PrintMore
attribute [local go_sem] max2_int min2_int max_two min_two max_three min_three max_four min_four   -- for this text's walks alone
set_option linter.unusedVariables false
set_option linter.unusedSimpArgs false

/-! ### impl_ReadCmd: function 14 -/
def impl_ReadCmd.nums : Nat → List ByteArray → Int → Int → Int → Option (Option (Int × Int))
  | 0, _, _, _, _ => none
  | k + 1, ys, x, a, b => if x < (ys.length : Int) then (if 0 ≤ x then (if x < 2 then ((impl_ReadDecimal.f (rdOf ByteArray.empty ys x)).bind fun t => (if t.2 = true then (if x = 0 then impl_ReadCmd.nums k ys (x + 1) t.1 b else impl_ReadCmd.nums k ys (x + 1) a t.1) else (some none))) else (none)) else (none)) else (some (some (a, b)))
mutual
def impl_ReadCmd.j0 : Nat → List ByteArray → Bool → Option (Int × Int × Int × Bool)
  | 0, _, _ => none
  | k + 1, x4, x24 => if x24 = true then (some (0, 0, 0, false)) else (impl_ReadCmd.l0 k x4 1)
def impl_ReadCmd.l0 : Nat → List ByteArray → Int → Option (Int × Int × Int × Bool)
  | 0, _, _ => none
  | k + 1, x4, x6 => if x6 ≤ 8 then ((impl_wordOf.f x6).bind fun bt127 => (if 0 < (x4.length : Int) then (if bt127.1.toList = (rdOf ByteArray.empty x4 0).toList then (impl_ReadCmd.j2 k x4 x6 ((x4.length : Int) != (wrap64 (bt127.2 + 1)))) else (impl_ReadCmd.j2 k x4 x6 true)) else (none))) else (some (0, 0, 0, false))
def impl_ReadCmd.j2 : Nat → List ByteArray → Int → Bool → Option (Int × Int × Int × Bool)
  | 0, _, _, _ => none
  | k + 1, x4, x6, x46 => if x46 = true then (impl_ReadCmd.l0 k x4 (wrap64 (x6 + 1))) else (if 1 ≤ x4.length then ((impl_ReadCmd.nums k (x4.drop 1) 0 0 0).bind fun o => (match o with
    | some (a, b) => some (x6, a, b, true)
    | none => some (0, 0, 0, false))) else (none))
end
def impl_ReadCmd.f (k : Nat) (a0 : ByteArray) : Option (Int × Int × Int × Bool) := (impl_PartsOf.f k a0).bind fun bt123 => (if bt123.2 = true then (impl_ReadCmd.j0 k bt123.1 ((bt123.1.length : Int) == 0)) else (impl_ReadCmd.j0 k bt123.1 true))
theorem impl_ReadCmd.mono_n : ∀ k, (∀ y0 y1 y2 y3, LeO (impl_ReadCmd.nums k y0 y1 y2 y3) (impl_ReadCmd.nums (k + 1) y0 y1 y2 y3))
  | 0 => fun _ _ _ _ r h => by simp [impl_ReadCmd.nums] at h
  | k + 1 => by
    have ih0 := impl_ReadCmd.mono_n k
    intro y0 y1 y2 y3
    unfold impl_ReadCmd.nums
    repeat' first
      | (with_reducible exact ih0 _ _ _ _)
      | (with_reducible exact LeO.refl _)
      | (with_reducible exact LeO.none _)
      | (with_reducible refine LeO.ite ?_ ?_)
      | (with_reducible refine LeO.bind ?_ (fun _ => ?_))
theorem impl_ReadCmd.mono_l : ∀ k, (∀ y0 y1, LeO (impl_ReadCmd.j0 k y0 y1) (impl_ReadCmd.j0 (k + 1) y0 y1)) ∧ (∀ y0 y1, LeO (impl_ReadCmd.l0 k y0 y1) (impl_ReadCmd.l0 (k + 1) y0 y1)) ∧ (∀ y0 y1 y2, LeO (impl_ReadCmd.j2 k y0 y1 y2) (impl_ReadCmd.j2 (k + 1) y0 y1 y2))
  | 0 => ⟨fun _ _ r h => by simp [impl_ReadCmd.j0] at h, fun _ _ r h => by simp [impl_ReadCmd.l0] at h, fun _ _ _ r h => by simp [impl_ReadCmd.j2] at h⟩
  | k + 1 => by
    obtain ⟨ih0, ih1, ih2⟩ := impl_ReadCmd.mono_l k
    refine ⟨?_, ?_, ?_⟩
    · intro y0 y1
      unfold impl_ReadCmd.j0
      exact LeO.ite (LeO.refl _) (ih1 _ _)
    · intro y0 y1
      unfold impl_ReadCmd.l0
      exact LeO.ite (LeO.bind (LeO.refl _) fun _ => LeO.ite (LeO.ite (ih2 _ _ _) (ih2 _ _ _)) (LeO.refl _)) (LeO.refl _)
    · intro y0 y1 y2
      unfold impl_ReadCmd.j2
      exact LeO.ite (ih1 _ _) (LeO.ite (LeO.bind (impl_ReadCmd.mono_n k _ _ _ _) fun _ => LeO.refl _) (LeO.refl _))
theorem impl_ReadCmd.mono : ∀ a0 k, LeO (impl_ReadCmd.f k a0) (impl_ReadCmd.f (k + 1) a0) := by
  intro a0 k
  obtain ⟨ih0, ih1, ih2⟩ := impl_ReadCmd.mono_l k
  unfold impl_ReadCmd.f
  exact LeO.bind (impl_PartsOf.mono a0 k) fun _ => LeO.ite (ih0 _ _) (ih0 _ _)
set_option maxHeartbeats 8000000 in
set_option maxRecDepth 100000 in
theorem impl_ReadCmd.calls (k : Nat) (a0 : ByteArray) (r1 : Int) (r2 : Int) (r3 : Int) (r4 : Bool) (w : World) (ht : Go.Proofs.YtaddjeoncbmohaaDoor.MyDoor.Door true w) (h : impl_ReadCmd.f k a0 = some (r1, r2, r3, r4)) :
    Calls Tryd.prog 14 #[.string a0] w fun e w' => e = .returned (.tuple #[.agg #[.int .i64 r1, .int .i64 r2, .int .i64 r3], .bool r4]) ∧ Below w.heap.size w w' := by
  have hu40 := Tryd.underlying35
  have HB := Aside0.mk (Below.refl w.heap.size w)
  have HT := Aside0.mk ht
  clear ht
  have hu61 := Tryd.underlying56
  have H : ((impl_PartsOf.f k a0).bind fun bt123 => (if bt123.2 = true then (impl_ReadCmd.j0 k bt123.1 ((bt123.1.length : Int) == 0)) else (impl_ReadCmd.j0 k bt123.1 true))) = some (r1, r2, r3, r4) := h
  clear h
  replace H := Option.bind_eq_some_iff.mp H
  obtain ⟨⟨t123, t124⟩, A20, H⟩ := H
  replace H : (if t124 = true then (impl_ReadCmd.j0 k t123 ((t123.length : Int) == 0)) else (impl_ReadCmd.j0 k t123 true)) = some (r1, r2, r3, r4) := H
  have A2 := Aside0.mk A20
  clear A20
  have HC3 := Aside0.mk H
  clear H
  go_enter Tryd.func14, Tryd.ntmps14
  go_upto_region 2 with (first | ((with_reducible refine gate_dst (N := 2) rfl ?_); (try (refine gate_guard (by rfl) ?_; dsimp only)); refine box_event ?hg (N := 2) ?hd (cs := #[.int .i64 0, .int .i64 0, .int .i64 0]) (t := 35) ?hr ?_; (case hd => rfl); (case hg => rfl); (case hr => first | (go_simp; done) | (go_simp; rfl)); intro gb122 hg w4 hbox hb; have n0_ := Aside0.mk (below_step (by repeat (first | (with_reducible first | exact HB.out | apply below_alloc | apply pw_below_drewN | apply below_drew1) | exact HB.out)) hb); have n1_ := Aside0.mk (hbox); have n2_ := Aside0.mk ((by rw [hg]; exact (below_size (by repeat (first | (with_reducible first | exact HB.out | apply below_alloc | apply pw_below_drewN | apply below_drew1) | exact HB.out))) : w.heap.size ≤ gb122)); have n3_ := n2_; clear HB; have HB := n0_; have BK122 := n1_; have GW122 := n2_; have GE122 := n3_; clear n0_ n1_ n2_ n3_; clear hb hbox hg) | ((with_reducible refine gate_callee (f := 29) rfl ?_); refine goesL_ (some 14) rfl rfl Tryd.func29 (by kernel_rfl) rfl #[.string a0] rfl (by (try simp only [List.map_toArray, List.map_cons, List.map_nil]); first | done | rfl | (simp only [List.length_drop, List.length_take]; rfl)) ?_; (with_reducible refine (impl_PartsOf.calls k a0 t123 t124 _ A2.out).mono ?_); rintro e w5 ⟨v125, rfl, ho0, hb⟩; refine ⟨_, rfl, ?_⟩; have n0_ := Aside0.mk (Kd.R_lower ho0 (below_size (by repeat (first | (with_reducible first | exact HB.out | apply below_alloc | apply pw_below_drewN | apply below_drew1 | refine below_set ?_ GE122.out) | exact HB.out)))); have n1_ := Aside0.mk (blk_below (g := gb122) (by first | (with_reducible exact BK122.out) | (with_reducible exact blk_drewN BK122.out _) | (with_reducible exact blk_drew BK122.out) | ((with_reducible repeat (first | refine blk_drewN ?_ _ | refine blk_drew ?_ | refine blk_alloc ?_ _)); exact BK122.out)) hb); have n2_ := Aside0.mk (below_step (by repeat (first | (with_reducible first | exact HB.out | apply below_alloc | apply pw_below_drewN | apply below_drew1 | refine below_set ?_ GE122.out) | exact HB.out)) hb); clear BK122; clear HB; have HO126 := n0_; have BK122 := n1_; have HB := n2_; clear n0_ n1_ n2_; (try clear hb); (try clear hb2); (try clear hk); (try clear hi); (try clear ho0)))
  (try simp only [Act.put, List.setIfInBounds_toArray, List.set_cons_zero, List.set_cons_succ])
  go_cut [23] (fun v23 wc => ∃ (kq : Nat) (x24_2 : Bool), v23 = .bool x24_2 ∧ Aside0 (impl_ReadCmd.j0 kq t123 x24_2 = some (r1, r2, r3, r4)) ∧ Aside0 (kq ≤ k) ∧ Aside0 (Kd.R Kd.string 9 wc w.heap.size (fun _ => True) v125 t123) ∧ Aside0 (wc.heap[gb122]? = some (.cells #[.int .i64 0, .int .i64 0, .int .i64 0] 35 (0, 0))) ∧ Aside0 (Below w.heap.size w wc))
  case first =>
    have H := HC3.out
    clear HC3
    by_cases c6 : t124 = true
    · subst c6
      have H1 : (impl_ReadCmd.j0 k t123 ((t123.length : Int) == 0)) = some (r1, r2, r3, r4) := by rw [if_pos rfl] at H; exact H
      clear H
      have H := H1
      clear H1
      have H' := Aside0.mk H
      clear H
      obtain ⟨Ao7, co7, eo7⟩ := Kd.R_slice HO126.out
      subst eo7
      go_wp2
      go_meet
      case rel => exact ⟨_, (((t123.length : Int) == 0)), (by first | rfl | (simp; done) | (simp [*]; done)), H', ⟨by first | omega | exact Nat.le_refl _⟩, ⟨by (with_reducible repeat (first | apply Kd.R_alloc | apply Kd.R_drewN | apply Kd.R_drew)); exact HO126.out⟩, ⟨by (with_reducible repeat (first | refine blk_drewN ?_ _ | refine blk_drew ?_ | refine blk_alloc ?_ _)); exact BK122.out⟩, ⟨by repeat (first | (with_reducible first | exact HB.out | apply below_alloc | apply pw_below_drewN | apply below_drew1 | refine below_set ?_ GE122.out) | exact HB.out)⟩⟩
    · replace c6 := Bool.eq_false_iff.mpr c6
      subst c6
      have H1 : (impl_ReadCmd.j0 k t123 true) = some (r1, r2, r3, r4) := by rw [if_neg (show ¬ (false = true) by decide)] at H; exact H
      clear H
      have H := H1
      clear H1
      have H' := Aside0.mk H
      clear H
      go_wp2
      go_meet
      case rel => exact ⟨_, (true), (by first | rfl | (simp; done) | (simp [*]; done)), H', ⟨by first | omega | exact Nat.le_refl _⟩, ⟨by (with_reducible repeat (first | apply Kd.R_alloc | apply Kd.R_drewN | apply Kd.R_drew)); exact HO126.out⟩, ⟨by (with_reducible repeat (first | refine blk_drewN ?_ _ | refine blk_drew ?_ | refine blk_alloc ?_ _)); exact BK122.out⟩, ⟨by repeat (first | (with_reducible first | exact HB.out | apply below_alloc | apply pw_below_drewN | apply below_drew1 | refine below_set ?_ GE122.out) | exact HB.out)⟩⟩
  case rest =>
    clear HC3
    try clear c1
    try clear c2
    try clear p2
    try clear c6
    obtain ⟨kq, x24_2, rfl, HA, HJ2, HO_4, BK122, HB⟩ := hcut
    cases kq with
    | zero => exact absurd HA.out (by simp [impl_ReadCmd.j0])
    | succ kj2 =>
      have H := HA.out
      clear HA
      simp only [impl_ReadCmd.j0] at H
      by_cases c8 : x24_2 = true
      · subst c8
        have H1 : (some (0, 0, 0, false)) = some (r1, r2, r3, r4) := by rw [if_pos rfl] at H; exact H
        clear H
        have H := H1
        clear H1
        simp only [Option.some.injEq, Prod.mk.injEq] at H
        obtain ⟨rfl, rfl, rfl, rfl⟩ := H
        have hcz9_0 : wc.cell? ⟨gb122, 0, none⟩ = some (.int .i64 0) := (blk_cell BK122.out 0).trans rfl
        have hcz9_1 : wc.cell? ⟨gb122, 1, none⟩ = some (.int .i64 0) := (blk_cell BK122.out 1).trans rfl
        have hcz9_2 : wc.cell? ⟨gb122, 2, none⟩ = some (.int .i64 0) := (blk_cell BK122.out 2).trans rfl
        have hfz9_0 := blk_frozen BK122.out 0
        have hfz9_1 := blk_frozen BK122.out 1
        have hfz9_2 := blk_frozen BK122.out 2
        go_wp2
        refine bodyPost_ret (results_ct rfl _ _ gb122 35 #[.int .i64 0, .int .i64 0, .int .i64 0] (0, 0) _ rfl (by (with_reducible repeat (first | refine blk_drewN ?_ _ | refine blk_drew ?_ | refine blk_alloc ?_ _)); refine blk_put (cs := #[.int .i64 0, .int .i64 0, .int .i64 0]) ?_ 2 _ rfl; (with_reducible repeat (first | refine blk_drewN ?_ _ | refine blk_drew ?_ | refine blk_alloc ?_ _)); refine blk_put (cs := #[.int .i64 0, .int .i64 0, .int .i64 0]) ?_ 1 _ rfl; (with_reducible repeat (first | refine blk_drewN ?_ _ | refine blk_drew ?_ | refine blk_alloc ?_ _)); refine blk_put (cs := #[.int .i64 0, .int .i64 0, .int .i64 0]) ?_ 0 _ rfl; (with_reducible repeat (first | refine blk_drewN ?_ _ | refine blk_drew ?_ | refine blk_alloc ?_ _)); exact BK122.out) Tryd.underlying35 rfl (by kernel_rfl)) rfl ?_
        exact ⟨by first | rfl | (simp [errW_none, errW_some] <;> rfl) | (simp [*, errW_none, errW_some] <;> rfl), by repeat (first | (with_reducible first | exact HB.out | apply below_alloc | apply pw_below_drewN | apply below_drew1 | refine below_set ?_ GE122.out) | exact HB.out)⟩
      · replace c8 := Bool.eq_false_iff.mpr c8
        subst c8
        have H1 : (impl_ReadCmd.l0 kj2 t123 1) = some (r1, r2, r3, r4) := by rw [if_neg (show ¬ (false = true) by decide)] at H; exact H
        clear H
        have H := H1
        clear H1
        have H' := Aside0.mk H
        clear H
        go_wp2
        go_loopg [6] kj2 (fun kq v6 w' => ∃ (x6_2 : Int) (x123000_2 : Int) (x123001_2 : Int) (x123002_2 : Int), v6 = .int .i64 x6_2 ∧ Aside0 (impl_ReadCmd.l0 kq t123 x6_2 = some (r1, r2, r3, r4)) ∧ Aside0 (kq ≤ kj2) ∧ Aside0 (Kd.R Kd.string 9 w' w.heap.size (fun _ => True) v125 t123) ∧ Aside0 (w'.heap[gb122]? = some (.cells #[.int .i64 x123000_2, .int .i64 x123001_2, .int .i64 x123002_2] 35 (0, 0))) ∧ Aside0 (Below w.heap.size w w'))
        case atStart => exact ⟨(1), (0), (0), (0), (by first | rfl | (simp; done) | (simp [*]; done)), H', ⟨Nat.le_refl _⟩, ⟨by (with_reducible repeat (first | apply Kd.R_alloc | apply Kd.R_drewN | apply Kd.R_drew)); exact HO_4.out⟩, ⟨by (with_reducible repeat (first | refine blk_drewN ?_ _ | refine blk_drew ?_ | refine blk_alloc ?_ _)); exact BK122.out⟩, ⟨by repeat (first | (with_reducible first | exact HB.out | apply below_alloc | apply pw_below_drewN | apply below_drew1 | refine below_set ?_ GE122.out) | exact HB.out)⟩⟩
        case round =>
          clear H'
          try clear c1
          try clear c2
          try clear p2
          try clear c6
          try clear c8
          try clear hcz9_0
          try clear hcz9_1
          try clear hcz9_2
          try clear hfz9_0
          try clear hfz9_1
          try clear hfz9_2
          try clear p2
          obtain ⟨x6_2, x123000_2, x123001_2, x123002_2, rfl, HA, HK2, HO_4, BK122, HB⟩ := hrel
          cases gk with
          | zero => exact absurd HA.out (by simp [impl_ReadCmd.l0])
          | succ k2 =>
            have H := HA.out
            clear HA
            simp only [impl_ReadCmd.l0] at H
            by_cases c10 : x6_2 ≤ 8
            · rw [if_pos c10] at H
              have c10b0 : decide (x6_2 ≤ 8) = true := decide_eq_true c10
              clear c10
              replace H := Option.bind_eq_some_iff.mp H
              obtain ⟨⟨t127, t128⟩, A110, H⟩ := H
              replace H : (if 0 < (t123.length : Int) then (if t127.toList = (rdOf ByteArray.empty t123 0).toList then (impl_ReadCmd.j2 k2 t123 x6_2 ((t123.length : Int) != (wrap64 (t128 + 1)))) else (impl_ReadCmd.j2 k2 t123 x6_2 true)) else (none)) = some (r1, r2, r3, r4) := H
              have A11 := Aside0.mk A110
              clear A110
              have HC12 := Aside0.mk H
              clear H
              go_upto_region 8 with (first | ((with_reducible refine gate_callee (f := 27) rfl ?_); refine goesL_ (some 31) rfl rfl Tryd.func27 (by kernel_rfl) rfl #[.int .i64 x6_2] rfl (by (try simp only [List.map_toArray, List.map_cons, List.map_nil]); first | done | rfl | (simp only [List.length_drop, List.length_take]; rfl)) ?_; (with_reducible refine (impl_wordOf.calls x6_2 t127 t128 _ A11.out).mono ?_); rintro e w' ⟨rfl, ⟨nd, rfl⟩⟩; refine ⟨_, rfl, ?_⟩))
              (try simp only [Act.put, List.setIfInBounds_toArray, List.set_cons_zero, List.set_cons_succ])
              go_cut [45] (fun v45 wc => ∃ (kq : Nat) (x46_11 : Bool), v45 = .bool x46_11 ∧ Aside0 (impl_ReadCmd.j2 kq t123 x6_2 x46_11 = some (r1, r2, r3, r4)) ∧ Aside0 (kq ≤ k2) ∧ Aside0 (Kd.R Kd.string 9 wc w.heap.size (fun _ => True) v125 t123) ∧ Aside0 (wc.heap[gb122]? = some (.cells #[.int .i64 x123000_2, .int .i64 x123001_2, .int .i64 x123002_2] 35 (0, 0))) ∧ Aside0 (Below w.heap.size w wc))
              case first =>
                have H := HC12.out
                clear HC12
                by_cases c13 : 0 < (t123.length : Int)
                · rw [if_pos c13] at H
                  have c13b0 : decide (0 < (t123.length : Int)) = true := decide_eq_true c13
                  have c13b1 : decide (0 < t123.length) = true := decide_eq_true (by omega)
                  clear c13
                  (first | rw [c13b0] | (simp only [i64_w, i32_w]; rw [c13b0]) | skip)
                  by_cases c14 : t127.toList = (rdOf ByteArray.empty t123 0).toList
                  · rw [if_pos c14] at H
                    have c14b0 : (t127.toList == (rdOf ByteArray.empty t123 0).toList) = true := beq_iff_eq.mpr c14
                    have c14b1 : (t127.toList != (rdOf ByteArray.empty t123 0).toList) = false := bne_eq_false_iff_eq.mpr c14
                    clear c14
                    have H' := Aside0.mk H
                    clear H
                    obtain ⟨Ao15, co15, eo15⟩ := Kd.R_slice HO_4.out
                    subst eo15
                    have p129 : 0 ≤ (0 : Int) := (by omega)
                    have q129 : 0 < (t123.length : Int) := of_decide_eq_true (by first | (with_reducible assumption) | assumption)
                    obtain ⟨ad129, e129, hx129_0⟩ := Kd.at_string (Kd.R_reads' HO_4.out).2.2 0 p129 q129
                    cases e129
                    have qi129 : (0 < t123.length) = True := eq_true (by omega)
                    (try rw [show ((0 : Int)).toNat = 0 from rfl] at hx129_0)
                    (try rw [Addr.add_zero'] at hx129_0)
                    replace p129 := eq_true p129
                    replace q129 := eq_true q129
                    go_wp2
                    go_meet
                    case rel => exact ⟨_, (((t123.length : Int) != (wrap64 (t128 + 1)))), (by first | rfl | (simp; done) | (simp [*]; done)), H', ⟨by have := HJ2.out; have := HK2.out; first | omega | exact Nat.le_refl _⟩, ⟨by (with_reducible repeat (first | apply Kd.R_alloc | apply Kd.R_drewN | apply Kd.R_drew)); exact HO_4.out⟩, ⟨by (with_reducible repeat (first | refine blk_drewN ?_ _ | refine blk_drew ?_ | refine blk_alloc ?_ _)); exact BK122.out⟩, ⟨by repeat (first | (with_reducible first | exact HB.out | apply below_alloc | apply pw_below_drewN | apply below_drew1 | refine below_set ?_ GE122.out) | exact HB.out)⟩⟩
                  · rw [if_neg c14] at H
                    have c14b0 : (t127.toList == (rdOf ByteArray.empty t123 0).toList) = false := beq_eq_false_iff_ne.mpr c14
                    have c14b1 : (t127.toList != (rdOf ByteArray.empty t123 0).toList) = true := bne_iff_ne.mpr c14
                    have H' := Aside0.mk H
                    clear H
                    obtain ⟨Ao16, co16, eo16⟩ := Kd.R_slice HO_4.out
                    subst eo16
                    have p129 : 0 ≤ (0 : Int) := (by omega)
                    have q129 : 0 < (t123.length : Int) := of_decide_eq_true (by first | (with_reducible assumption) | assumption)
                    obtain ⟨ad129, e129, hx129_0⟩ := Kd.at_string (Kd.R_reads' HO_4.out).2.2 0 p129 q129
                    cases e129
                    have qi129 : (0 < t123.length) = True := eq_true (by omega)
                    (try rw [show ((0 : Int)).toNat = 0 from rfl] at hx129_0)
                    (try rw [Addr.add_zero'] at hx129_0)
                    replace p129 := eq_true p129
                    replace q129 := eq_true q129
                    go_wp2
                    go_meet
                    case rel => exact ⟨_, (true), (by first | rfl | (simp; done) | (simp [*]; done)), H', ⟨by have := HJ2.out; have := HK2.out; first | omega | exact Nat.le_refl _⟩, ⟨by (with_reducible repeat (first | apply Kd.R_alloc | apply Kd.R_drewN | apply Kd.R_drew)); exact HO_4.out⟩, ⟨by (with_reducible repeat (first | refine blk_drewN ?_ _ | refine blk_drew ?_ | refine blk_alloc ?_ _)); exact BK122.out⟩, ⟨by repeat (first | (with_reducible first | exact HB.out | apply below_alloc | apply pw_below_drewN | apply below_drew1 | refine below_set ?_ GE122.out) | exact HB.out)⟩⟩
                · rw [if_neg c13] at H
                  exact absurd H (by simp)
              case rest =>
                clear HC12
                try clear c1
                try clear p1
                try clear q1
                try clear hx1
                try clear qi1
                try clear c2
                try clear p2
                try clear c6
                try clear p6
                try clear c8
                try clear c10
                try clear c10b0
                try clear p12
                try clear q12
                try clear hx12
                try clear qi12
                try clear c13
                try clear c13b0
                try clear c13b1
                try clear c14
                try clear c14b0
                try clear c14b1
                try clear c15
                try clear hcz9_0
                try clear hcz9_1
                try clear hcz9_2
                try clear hfz9_0
                try clear hfz9_1
                try clear hfz9_2
                try clear hx129_0
                try clear p129
                try clear p2
                try clear q129
                obtain ⟨kq, x46_11, rfl, HA, HJ11, HO_4, BK122, HB⟩ := hcut
                cases kq with
                | zero => exact absurd HA.out (by simp [impl_ReadCmd.j2])
                | succ kj11 =>
                  have H := HA.out
                  clear HA
                  simp only [impl_ReadCmd.j2] at H
                  by_cases c17 : x46_11 = true
                  · subst c17
                    have H1 : (impl_ReadCmd.l0 kj11 t123 (wrap64 (x6_2 + 1))) = some (r1, r2, r3, r4) := by rw [if_pos rfl] at H; exact H
                    clear H
                    have H := H1
                    clear H1
                    have H' := Aside0.mk H
                    clear H
                    go_wp2
                    go_roundg kj11
                    case measure => have := HJ2.out; have := HK2.out; have := HJ11.out; omega
                    case rel => exact ⟨(wrap64 (x6_2 + 1)), (x123000_2), (x123001_2), (x123002_2), (by first | rfl | (simp; done) | (simp [*]; done)), H', ⟨by have := HJ2.out; have := HK2.out; have := HJ11.out; omega⟩, ⟨by (with_reducible repeat (first | apply Kd.R_alloc | apply Kd.R_drewN | apply Kd.R_drew)); exact HO_4.out⟩, ⟨by (with_reducible repeat (first | refine blk_drewN ?_ _ | refine blk_drew ?_ | refine blk_alloc ?_ _)); exact BK122.out⟩, ⟨by repeat (first | (with_reducible first | exact HB.out | apply below_alloc | apply pw_below_drewN | apply below_drew1 | refine below_set ?_ GE122.out) | exact HB.out)⟩⟩
                  ·
                    replace c17 := Bool.eq_false_iff.mpr c17
                    subst c17
                    rw [if_neg (show ¬ (false = true) by decide)] at H
                    by_cases c30 : 1 ≤ t123.length
                    · rw [if_pos c30] at H
                      obtain ⟨o, HN0, H2_⟩ := Option.bind_eq_some_iff.mp H
                      clear H
                      have HN := Aside0.mk HN0
                      have HR := Aside0.mk H2_
                      clear HN0 H2_
                      obtain ⟨g, cap, rfl, hgB, hgl, _⟩ := Kd.R_form HO_4.out (by omega)
                      obtain ⟨_, hlc, hC⟩ := Kd.R_reads' HO_4.out
                      obtain ⟨y0, ys, rfl⟩ : ∃ y0 ys, t123 = y0 :: ys := by cases t123 with | nil => simp at c30 | cons a l => exact ⟨a, l, rfl⟩
                      have hel : ∀ j : Nat, j < ys.length → wc.cell? ⟨g, 1 + j, none⟩ = some (.string (rdOf ByteArray.empty ys (j : Int))) := by
                        intro j hj
                        obtain ⟨ad, ea, hcell⟩ := hC.2.2 (by simp)
                        obtain rfl := Option.some.inj ea
                        obtain ⟨c, hcl, hcs, hci⟩ := hcell (1 + j) (ys[j]) (by rw [Nat.add_comm, List.getElem?_cons_succ, List.getElem?_eq_getElem hj])
                        have hk : c = [Value.string ys[j]] := hcs
                        subst hk
                        have h9 := hci 0 _ rfl
                        rw [Go.Lib.add_plain] at h9
                        simpa [Kd.string, Kd.scalar, rdOf, List.getD, hj] using h9
                      have HEL := Aside0.mk hel
                      have HGL := Aside0.mk hgl
                      have HLC := Aside0.mk hlc
                      clear hel hgl hC c30 hgB
                      simp only [List.drop_succ_cons, List.drop_zero] at HN
                      simp only [List.length_cons] at HLC hlc
                      have HB1 := Aside0.mk (Below.refl wc.heap.size wc)
                      have BKC := BK122
                      (try simp only [List.length_cons])
                      by_cases hcap : cap = 1
                      · skip
                        have hcap0 := hcap
                        clear hcap
                        subst hcap0
                        have hlen : ys.length = 0 := by omega
                        obtain rfl : ys = [] := List.eq_nil_of_length_eq_zero hlen
                        clear hlen hlc
                        (try simp only [List.length_nil])
                        go_wp2_with (first | ((with_reducible refine gate_dst (N := 9) rfl ?_); (try (refine gate_guard (by rfl) ?_; dsimp only)); refine box_event ?hg (N := 9) ?hd (cs := #[.int .i64 0, .int .i64 0]) (t := 56) ?hr ?_; (case hd => rfl); (case hg => rfl); (case hr => first | (go_simp; done) | (go_simp; rfl)); intro ga hg w18 hbox hb; have n0_ := Aside0.mk (blk_below (g := gb122) (by first | (with_reducible exact BK122.out) | (with_reducible exact blk_drewN BK122.out _) | (with_reducible exact blk_drew BK122.out) | ((with_reducible repeat (first | refine blk_drewN ?_ _ | refine blk_drew ?_ | refine blk_alloc ?_ _)); exact BK122.out)) hb); have n1_ := Aside0.mk (below_step (by repeat (first | (with_reducible first | exact HB.out | apply below_alloc | apply pw_below_drewN | apply below_drew1 | refine below_set ?_ GE122.out) | exact HB.out)) hb); have n2_ := Aside0.mk hbox; have n3_ := Aside0.mk ((by rw [hg]; exact (below_size (by repeat (first | (with_reducible first | exact HB.out | apply below_alloc | apply pw_below_drewN | apply below_drew1 | refine below_set ?_ GE122.out) | exact HB.out)))) : w.heap.size ≤ ga); have n4_ := Aside0.mk ((by rw [hg]; exact (below_size (by repeat (first | (with_reducible first | exact HB1.out | apply below_alloc | apply pw_below_drewN | apply below_drew1) | exact HB1.out)))) : wc.heap.size ≤ ga); have n5_ := Aside0.mk (below_step (by repeat (first | (with_reducible first | exact HB1.out | apply below_alloc | apply pw_below_drewN | apply below_drew1) | exact HB1.out)) hb); clear BK122 HB HB1; have BK122 := n0_; have HB := n1_; have BA := n2_; have GEA := n3_; have GA1 := n4_; have HB1 := n5_; clear n0_ n1_ n2_ n3_ n4_ n5_; clear hb hbox hg; have hca0 : w18.cell? ⟨ga, 0, none⟩ = some (.int .i64 0) := (blk_cell BA.out 0).trans rfl; have hca1 : w18.cell? ⟨ga, 1, none⟩ = some (.int .i64 0) := (blk_cell BA.out 1).trans rfl; have hfa0 := blk_frozen BA.out 0; have hfa1 := blk_frozen BA.out 1))
                        go_loopg [50] kj11 (fun kq v50 w' => ∃ (x : Int) (a : Int) (b : Int), v50 = .int .i64 x ∧ Aside0 (impl_ReadCmd.nums kq [] x a b = some o) ∧ Aside0 (0 ≤ x) ∧ Aside0 (kq ≤ kj11) ∧ Aside0 (w'.heap[ga]? = some (.cells #[.int .i64 a, .int .i64 b] 56 (0, 0))) ∧ Aside0 (Below wc.heap.size wc w') ∧ Aside0 (Below w.heap.size w w'))
                        case atStart => exact ⟨0, 0, 0, (by first | rfl | (simp; done)), HN, ⟨Int.le_refl _⟩, ⟨Nat.le_refl _⟩, ⟨by (with_reducible repeat (first | refine blk_drewN ?_ _ | refine blk_drew ?_ | refine blk_alloc ?_ _)); refine blk_put (cs := #[.int .i64 0, .int .i64 0]) ?_ 1 _ rfl; (with_reducible repeat (first | refine blk_drewN ?_ _ | refine blk_drew ?_ | refine blk_alloc ?_ _)); refine blk_put (cs := #[.int .i64 0, .int .i64 0]) ?_ 0 _ rfl; (with_reducible repeat (first | refine blk_drewN ?_ _ | refine blk_drew ?_ | refine blk_alloc ?_ _)); exact BA.out⟩, ⟨by repeat (first | (with_reducible first | exact HB1.out | apply below_alloc | apply pw_below_drewN | apply below_drew1 | refine below_set ?_ GA1.out) | exact HB1.out)⟩, ⟨by repeat (first | (with_reducible first | exact HB.out | apply below_alloc | apply pw_below_drewN | apply below_drew1 | refine below_set ?_ GE122.out | refine below_set ?_ GEA.out) | exact HB.out)⟩⟩
                        case round =>
                          clear HN BA HB1 HB
                          (try clear hca0 hca1)
                          (try clear hfa0 hfa1)
                          obtain ⟨x, a, b, rfl, HA, HX0, HK4, BA, HB1, HB⟩ := hrel
                          cases gk with
                          | zero => exact absurd HA.out (by simp [impl_ReadCmd.nums])
                          | succ k4 =>
                            have H := HA.out
                            clear HA
                            simp only [impl_ReadCmd.nums] at H
                            have BK122 := Aside0.mk ((HB1.out.block _ (blk_lt BKC.out)).trans BKC.out)
                            have hca0 : wr.cell? ⟨ga, 0, none⟩ = some (.int .i64 a) := (blk_cell BA.out 0).trans rfl
                            have hca1 : wr.cell? ⟨ga, 1, none⟩ = some (.int .i64 b) := (blk_cell BA.out 1).trans rfl
                            have hfa0 := blk_frozen BA.out 0
                            have hfa1 := blk_frozen BA.out 1
                            have hx0 := HX0.out
                            rw [if_neg (show ¬ x < (([] : List ByteArray).length : Int) by simp; omega)] at H
                            have c31b0 : decide (x < 0) = false := decide_eq_false (by omega)
                            clear hx0
                            obtain rfl := Option.some.inj H
                            clear H
                            have H := HR.out
                            clear HR
                            simp only [Option.some.injEq, Prod.mk.injEq] at H
                            obtain ⟨rfl, rfl, rfl, rfl⟩ := H
                            have hcr0 : wr.cell? ⟨gb122, 0, none⟩ = some (.int .i64 x123000_2) := (blk_cell BK122.out 0).trans rfl
                            have hcr1 : wr.cell? ⟨gb122, 1, none⟩ = some (.int .i64 x123001_2) := (blk_cell BK122.out 1).trans rfl
                            have hcr2 : wr.cell? ⟨gb122, 2, none⟩ = some (.int .i64 x123002_2) := (blk_cell BK122.out 2).trans rfl
                            have hfr0 := blk_frozen BK122.out 0
                            have hfr1 := blk_frozen BK122.out 1
                            have hfr2 := blk_frozen BK122.out 2
                            go_wp2
                            refine bodyPost_ret (results_ct rfl _ _ gb122 35 #[.int .i64 x6_2, .int .i64 a, .int .i64 b] (0, 0) _ rfl (by (with_reducible repeat (first | refine blk_drewN ?_ _ | refine blk_drew ?_ | refine blk_alloc ?_ _)); refine blk_put (cs := #[.int .i64 x6_2, .int .i64 a, .int .i64 x123002_2]) ?_ 2 _ rfl; (with_reducible repeat (first | refine blk_drewN ?_ _ | refine blk_drew ?_ | refine blk_alloc ?_ _)); refine blk_put (cs := #[.int .i64 x6_2, .int .i64 x123001_2, .int .i64 x123002_2]) ?_ 1 _ rfl; (with_reducible repeat (first | refine blk_drewN ?_ _ | refine blk_drew ?_ | refine blk_alloc ?_ _)); refine blk_put (cs := #[.int .i64 x123000_2, .int .i64 x123001_2, .int .i64 x123002_2]) ?_ 0 _ rfl; (with_reducible repeat (first | refine blk_drewN ?_ _ | refine blk_drew ?_ | refine blk_alloc ?_ _)); exact BK122.out) Tryd.underlying35 rfl (by kernel_rfl)) rfl ?_
                            exact ⟨by first | rfl | (simp; done), by repeat (first | (with_reducible first | exact HB.out | apply below_alloc | apply pw_below_drewN | apply below_drew1 | refine below_set ?_ GE122.out | refine below_set ?_ GEA.out) | exact HB.out)⟩
                      · skip
                        have hcap0 := hcap
                        clear hcap
                        have hc1 : (cap = 1) = False := eq_false hcap0
                        have hc2 : 1 ≤ cap := by omega
                        have hc3 : (1 = cap) = False := eq_false (fun e => hcap0 e.symm)
                        have hc4 : (cap ≤ 1) = False := eq_false (by omega)
                        have hlc1 := eq_true hlc
                        clear hcap0 hlc
                        go_wp2_with (first | ((with_reducible refine gate_dst (N := 9) rfl ?_); (try (refine gate_guard (by rfl) ?_; dsimp only)); refine box_event ?hg (N := 9) ?hd (cs := #[.int .i64 0, .int .i64 0]) (t := 56) ?hr ?_; (case hd => rfl); (case hg => rfl); (case hr => first | (go_simp; done) | (go_simp; rfl)); intro ga hg w18 hbox hb; have n0_ := Aside0.mk (blk_below (g := gb122) (by first | (with_reducible exact BK122.out) | (with_reducible exact blk_drewN BK122.out _) | (with_reducible exact blk_drew BK122.out) | ((with_reducible repeat (first | refine blk_drewN ?_ _ | refine blk_drew ?_ | refine blk_alloc ?_ _)); exact BK122.out)) hb); have n1_ := Aside0.mk (below_step (by repeat (first | (with_reducible first | exact HB.out | apply below_alloc | apply pw_below_drewN | apply below_drew1 | refine below_set ?_ GE122.out) | exact HB.out)) hb); have n2_ := Aside0.mk hbox; have n3_ := Aside0.mk ((by rw [hg]; exact (below_size (by repeat (first | (with_reducible first | exact HB.out | apply below_alloc | apply pw_below_drewN | apply below_drew1 | refine below_set ?_ GE122.out) | exact HB.out)))) : w.heap.size ≤ ga); have n4_ := Aside0.mk ((by rw [hg]; exact (below_size (by repeat (first | (with_reducible first | exact HB1.out | apply below_alloc | apply pw_below_drewN | apply below_drew1) | exact HB1.out)))) : wc.heap.size ≤ ga); have n5_ := Aside0.mk (below_step (by repeat (first | (with_reducible first | exact HB1.out | apply below_alloc | apply pw_below_drewN | apply below_drew1) | exact HB1.out)) hb); clear BK122 HB HB1; have BK122 := n0_; have HB := n1_; have BA := n2_; have GEA := n3_; have GA1 := n4_; have HB1 := n5_; clear n0_ n1_ n2_ n3_ n4_ n5_; clear hb hbox hg; have hca0 : w18.cell? ⟨ga, 0, none⟩ = some (.int .i64 0) := (blk_cell BA.out 0).trans rfl; have hca1 : w18.cell? ⟨ga, 1, none⟩ = some (.int .i64 0) := (blk_cell BA.out 1).trans rfl; have hfa0 := blk_frozen BA.out 0; have hfa1 := blk_frozen BA.out 1))
                        go_loopg [50] kj11 (fun kq v50 w' => ∃ (x : Int) (a : Int) (b : Int), v50 = .int .i64 x ∧ Aside0 (impl_ReadCmd.nums kq ys x a b = some o) ∧ Aside0 (kq ≤ kj11) ∧ Aside0 (w'.heap[ga]? = some (.cells #[.int .i64 a, .int .i64 b] 56 (0, 0))) ∧ Aside0 (Below wc.heap.size wc w') ∧ Aside0 (Below w.heap.size w w'))
                        case atStart => exact ⟨0, 0, 0, (by first | rfl | (simp; done)), HN, ⟨Nat.le_refl _⟩, ⟨by (with_reducible repeat (first | refine blk_drewN ?_ _ | refine blk_drew ?_ | refine blk_alloc ?_ _)); refine blk_put (cs := #[.int .i64 0, .int .i64 0]) ?_ 1 _ rfl; (with_reducible repeat (first | refine blk_drewN ?_ _ | refine blk_drew ?_ | refine blk_alloc ?_ _)); refine blk_put (cs := #[.int .i64 0, .int .i64 0]) ?_ 0 _ rfl; (with_reducible repeat (first | refine blk_drewN ?_ _ | refine blk_drew ?_ | refine blk_alloc ?_ _)); exact BA.out⟩, ⟨by repeat (first | (with_reducible first | exact HB1.out | apply below_alloc | apply pw_below_drewN | apply below_drew1 | refine below_set ?_ GA1.out) | exact HB1.out)⟩, ⟨by repeat (first | (with_reducible first | exact HB.out | apply below_alloc | apply pw_below_drewN | apply below_drew1 | refine below_set ?_ GE122.out | refine below_set ?_ GEA.out) | exact HB.out)⟩⟩
                        case round =>
                          clear HN BA HB1 HB
                          (try clear hca0 hca1)
                          (try clear hfa0 hfa1)
                          obtain ⟨x, a, b, rfl, HA, HK4, BA, HB1, HB⟩ := hrel
                          cases gk with
                          | zero => exact absurd HA.out (by simp [impl_ReadCmd.nums])
                          | succ k4 =>
                            have H := HA.out
                            clear HA
                            simp only [impl_ReadCmd.nums] at H
                            have BK122 := Aside0.mk ((HB1.out.block _ (blk_lt BKC.out)).trans BKC.out)
                            have hca0 : wr.cell? ⟨ga, 0, none⟩ = some (.int .i64 a) := (blk_cell BA.out 0).trans rfl
                            have hca1 : wr.cell? ⟨ga, 1, none⟩ = some (.int .i64 b) := (blk_cell BA.out 1).trans rfl
                            have hfa0 := blk_frozen BA.out 0
                            have hfa1 := blk_frozen BA.out 1
                            by_cases c31 : x < (ys.length : Int)
                            · rw [if_pos c31] at H
                              by_cases c32 : 0 ≤ x
                              · rw [if_pos c32] at H
                                by_cases c33 : x < 2
                                · rw [if_pos c33] at H
                                  obtain ⟨⟨v, ok⟩, HD, H2_⟩ := Option.bind_eq_some_iff.mp H
                                  clear H
                                  have D := Aside0.mk HD
                                  have H3 := Aside0.mk H2_
                                  clear HD H2_
                                  have hcr0 : wr.cell? ⟨gb122, 0, none⟩ = some (.int .i64 x123000_2) := (blk_cell BK122.out 0).trans rfl
                                  have hcr1 : wr.cell? ⟨gb122, 1, none⟩ = some (.int .i64 x123001_2) := (blk_cell BK122.out 1).trans rfl
                                  have hcr2 : wr.cell? ⟨gb122, 2, none⟩ = some (.int .i64 x123002_2) := (blk_cell BK122.out 2).trans rfl
                                  have hfr0 := blk_frozen BK122.out 0
                                  have hfr1 := blk_frozen BK122.out 1
                                  have hfr2 := blk_frozen BK122.out 2
                                  have hne1 : ga ≠ gb122 := fun e => by have h1_ := blk_lt BKC.out; have h2_ := GA1.out; omega
                                  have hne2 : gb122 ≠ ga := Ne.symm hne1
                                  obtain rfl | rfl : x = 0 ∨ x = 1 := by omega
                                  · have hx := (HB1.out.cell (p := ⟨g, 1, none⟩) HGL.out).trans (HEL.out 0 (by omega))
                                    have c31b0 : decide ((0 : Int) < (ys.length : Int)) = true := decide_eq_true c31
                                    have c31b1 : decide (0 < ys.length) = true := decide_eq_true (by omega)
                                    have c31b2 : (0 < ys.length) = True := eq_true (by omega)
                                    have c31b3 : (ys = []) = False := eq_false (by intro e; rw [e] at c31; simp at c31)
                                    have c31b4 : (ys.length = 0) = False := eq_false (by omega)
                                    clear c31 c32 c33
                                    cases ok with
                                    | true =>
                                      have H := H3.out
                                      clear H3
                                      go_wp2_with (first | ((with_reducible refine gate_callee (f := 30) rfl ?_); refine goesL_ (some 58) rfl rfl Tryd.func30 (by kernel_rfl) rfl #[.string (rdOf ByteArray.empty ys (0 : Int))] rfl (by (try simp only [List.map_toArray, List.map_cons, List.map_nil]); first | done | rfl) ?_; (with_reducible refine (impl_ReadDecimal.calls (rdOf ByteArray.empty ys (0 : Int)) v true _ ?side1 D.out).mono ?_); (case side1 => exact Go.Proofs.YtaddjeoncbmohaaDoor.MyDoor.Door.go HT.out (by repeat (first | (with_reducible first | exact HB.out | apply below_alloc | apply pw_below_drewN | apply below_drew1 | refine below_set ?_ GE122.out | refine below_set ?_ GEA.out) | exact HB.out))); rintro e w29 ⟨rfl, hb⟩; refine ⟨_, rfl, ?_⟩; have n0_ := Aside0.mk (blk_below (g := gb122) (by first | (with_reducible exact BK122.out) | (with_reducible exact blk_drewN BK122.out _) | (with_reducible exact blk_drew BK122.out) | ((with_reducible repeat (first | refine blk_drewN ?_ _ | refine blk_drew ?_ | refine blk_alloc ?_ _)); exact BK122.out)) hb); have n1_ := Aside0.mk (blk_below (g := ga) (by first | (with_reducible exact BA.out) | (with_reducible exact blk_drewN BA.out _) | (with_reducible exact blk_drew BA.out) | ((with_reducible repeat (first | refine blk_drewN ?_ _ | refine blk_drew ?_ | refine blk_alloc ?_ _)); exact BA.out)) hb); have n2_ := Aside0.mk (below_step (by repeat (first | (with_reducible first | exact HB.out | apply below_alloc | apply pw_below_drewN | apply below_drew1 | refine below_set ?_ GE122.out | refine below_set ?_ GEA.out) | exact HB.out)) hb); have n3_ := Aside0.mk (below_step (by repeat (first | (with_reducible first | exact HB1.out | apply below_alloc | apply pw_below_drewN | apply below_drew1 | refine below_set ?_ GA1.out) | exact HB1.out)) hb); clear BK122 BA HB HB1; have BK122 := n0_; have BA := n1_; have HB := n2_; have HB1 := n3_; clear n0_ n1_ n2_ n3_ hb; have hcb0 : w29.cell? ⟨ga, 0, none⟩ = some (.int .i64 a) := (blk_cell BA.out 0).trans rfl; have hcb1 : w29.cell? ⟨ga, 1, none⟩ = some (.int .i64 b) := (blk_cell BA.out 1).trans rfl; have hfb0 := blk_frozen BA.out 0; have hfb1 := blk_frozen BA.out 1; have hcs0 : w29.cell? ⟨gb122, 0, none⟩ = some (.int .i64 x123000_2) := (blk_cell BK122.out 0).trans rfl; have hcs1 : w29.cell? ⟨gb122, 1, none⟩ = some (.int .i64 x123001_2) := (blk_cell BK122.out 1).trans rfl; have hcs2 : w29.cell? ⟨gb122, 2, none⟩ = some (.int .i64 x123002_2) := (blk_cell BK122.out 2).trans rfl; have hfs0 := blk_frozen BK122.out 0; have hfs1 := blk_frozen BK122.out 1; have hfs2 := blk_frozen BK122.out 2))
                                      (try (any_goals (exfalso; have h1_ := of_decide_eq_true c31b1; omega)))
                                      go_roundg k4
                                      case measure => have := HJ2.out; have := HK2.out; have := HJ11.out; have := HK4.out; omega
                                      case rel => exact ⟨1, v, b, (by first | rfl | (simp; done)), ⟨by simpa using H⟩, ⟨by have := HK4.out; omega⟩, ⟨by (with_reducible repeat (first | refine blk_drewN ?_ _ | refine blk_drew ?_ | refine blk_alloc ?_ _)); refine blk_put (cs := #[.int .i64 a, .int .i64 b]) ?_ 0 _ rfl; (with_reducible repeat (first | refine blk_drewN ?_ _ | refine blk_drew ?_ | refine blk_alloc ?_ _)); exact BA.out⟩, ⟨by repeat (first | (with_reducible first | exact HB1.out | apply below_alloc | apply pw_below_drewN | apply below_drew1 | refine below_set ?_ GA1.out) | exact HB1.out)⟩, ⟨by repeat (first | (with_reducible first | exact HB.out | apply below_alloc | apply pw_below_drewN | apply below_drew1 | refine below_set ?_ GE122.out | refine below_set ?_ GEA.out) | exact HB.out)⟩⟩
                                    | false =>
                                      have H := H3.out
                                      clear H3
                                      simp only [Bool.false_eq_true, if_false, Option.some.injEq] at H
                                      subst H
                                      have H := HR.out
                                      clear HR
                                      simp only [Option.some.injEq, Prod.mk.injEq] at H
                                      obtain ⟨rfl, rfl, rfl, rfl⟩ := H
                                      go_wp2_with (first | ((with_reducible refine gate_callee (f := 30) rfl ?_); refine goesL_ (some 58) rfl rfl Tryd.func30 (by kernel_rfl) rfl #[.string (rdOf ByteArray.empty ys (0 : Int))] rfl (by (try simp only [List.map_toArray, List.map_cons, List.map_nil]); first | done | rfl) ?_; (with_reducible refine (impl_ReadDecimal.calls (rdOf ByteArray.empty ys (0 : Int)) v false _ ?side1 D.out).mono ?_); (case side1 => exact Go.Proofs.YtaddjeoncbmohaaDoor.MyDoor.Door.go HT.out (by repeat (first | (with_reducible first | exact HB.out | apply below_alloc | apply pw_below_drewN | apply below_drew1 | refine below_set ?_ GE122.out | refine below_set ?_ GEA.out) | exact HB.out))); rintro e w29 ⟨rfl, hb⟩; refine ⟨_, rfl, ?_⟩; have n0_ := Aside0.mk (blk_below (g := gb122) (by first | (with_reducible exact BK122.out) | (with_reducible exact blk_drewN BK122.out _) | (with_reducible exact blk_drew BK122.out) | ((with_reducible repeat (first | refine blk_drewN ?_ _ | refine blk_drew ?_ | refine blk_alloc ?_ _)); exact BK122.out)) hb); have n1_ := Aside0.mk (blk_below (g := ga) (by first | (with_reducible exact BA.out) | (with_reducible exact blk_drewN BA.out _) | (with_reducible exact blk_drew BA.out) | ((with_reducible repeat (first | refine blk_drewN ?_ _ | refine blk_drew ?_ | refine blk_alloc ?_ _)); exact BA.out)) hb); have n2_ := Aside0.mk (below_step (by repeat (first | (with_reducible first | exact HB.out | apply below_alloc | apply pw_below_drewN | apply below_drew1 | refine below_set ?_ GE122.out | refine below_set ?_ GEA.out) | exact HB.out)) hb); have n3_ := Aside0.mk (below_step (by repeat (first | (with_reducible first | exact HB1.out | apply below_alloc | apply pw_below_drewN | apply below_drew1 | refine below_set ?_ GA1.out) | exact HB1.out)) hb); clear BK122 BA HB HB1; have BK122 := n0_; have BA := n1_; have HB := n2_; have HB1 := n3_; clear n0_ n1_ n2_ n3_ hb; have hcb0 : w29.cell? ⟨ga, 0, none⟩ = some (.int .i64 a) := (blk_cell BA.out 0).trans rfl; have hcb1 : w29.cell? ⟨ga, 1, none⟩ = some (.int .i64 b) := (blk_cell BA.out 1).trans rfl; have hfb0 := blk_frozen BA.out 0; have hfb1 := blk_frozen BA.out 1; have hcs0 : w29.cell? ⟨gb122, 0, none⟩ = some (.int .i64 x123000_2) := (blk_cell BK122.out 0).trans rfl; have hcs1 : w29.cell? ⟨gb122, 1, none⟩ = some (.int .i64 x123001_2) := (blk_cell BK122.out 1).trans rfl; have hcs2 : w29.cell? ⟨gb122, 2, none⟩ = some (.int .i64 x123002_2) := (blk_cell BK122.out 2).trans rfl; have hfs0 := blk_frozen BK122.out 0; have hfs1 := blk_frozen BK122.out 1; have hfs2 := blk_frozen BK122.out 2))
                                      (try (any_goals (exfalso; have h1_ := of_decide_eq_true c31b1; omega)))
                                      refine bodyPost_ret (results_ct rfl _ _ gb122 35 #[.int .i64 0, .int .i64 0, .int .i64 0] (0, 0) _ rfl (by (with_reducible repeat (first | refine blk_drewN ?_ _ | refine blk_drew ?_ | refine blk_alloc ?_ _)); refine blk_put (cs := #[.int .i64 0, .int .i64 0, .int .i64 x123002_2]) ?_ 2 _ rfl; (with_reducible repeat (first | refine blk_drewN ?_ _ | refine blk_drew ?_ | refine blk_alloc ?_ _)); refine blk_put (cs := #[.int .i64 0, .int .i64 x123001_2, .int .i64 x123002_2]) ?_ 1 _ rfl; (with_reducible repeat (first | refine blk_drewN ?_ _ | refine blk_drew ?_ | refine blk_alloc ?_ _)); refine blk_put (cs := #[.int .i64 x123000_2, .int .i64 x123001_2, .int .i64 x123002_2]) ?_ 0 _ rfl; (with_reducible repeat (first | refine blk_drewN ?_ _ | refine blk_drew ?_ | refine blk_alloc ?_ _)); refine blk_far ?_ hne2 _; (with_reducible repeat (first | refine blk_drewN ?_ _ | refine blk_drew ?_ | refine blk_alloc ?_ _)); exact BK122.out) Tryd.underlying35 rfl (by kernel_rfl)) rfl ?_
                                      exact ⟨by first | rfl | (simp; done), by repeat (first | (with_reducible first | exact HB.out | apply below_alloc | apply pw_below_drewN | apply below_drew1 | refine below_set ?_ GE122.out | refine below_set ?_ GEA.out) | exact HB.out)⟩
                                  · have hx := (HB1.out.cell (p := ⟨g, 2, none⟩) HGL.out).trans (HEL.out 1 (by omega))
                                    have c31b0 : decide ((1 : Int) < (ys.length : Int)) = true := decide_eq_true c31
                                    have c31b1 : decide (1 < ys.length) = true := decide_eq_true (by omega)
                                    have c31b2 : (1 < ys.length) = True := eq_true (by omega)
                                    clear c31 c32 c33
                                    cases ok with
                                    | true =>
                                      have H := H3.out
                                      clear H3
                                      go_wp2_with (first | ((with_reducible refine gate_callee (f := 30) rfl ?_); refine goesL_ (some 58) rfl rfl Tryd.func30 (by kernel_rfl) rfl #[.string (rdOf ByteArray.empty ys (1 : Int))] rfl (by (try simp only [List.map_toArray, List.map_cons, List.map_nil]); first | done | rfl) ?_; (with_reducible refine (impl_ReadDecimal.calls (rdOf ByteArray.empty ys (1 : Int)) v true _ ?side1 D.out).mono ?_); (case side1 => exact Go.Proofs.YtaddjeoncbmohaaDoor.MyDoor.Door.go HT.out (by repeat (first | (with_reducible first | exact HB.out | apply below_alloc | apply pw_below_drewN | apply below_drew1 | refine below_set ?_ GE122.out | refine below_set ?_ GEA.out) | exact HB.out))); rintro e w29 ⟨rfl, hb⟩; refine ⟨_, rfl, ?_⟩; have n0_ := Aside0.mk (blk_below (g := gb122) (by first | (with_reducible exact BK122.out) | (with_reducible exact blk_drewN BK122.out _) | (with_reducible exact blk_drew BK122.out) | ((with_reducible repeat (first | refine blk_drewN ?_ _ | refine blk_drew ?_ | refine blk_alloc ?_ _)); exact BK122.out)) hb); have n1_ := Aside0.mk (blk_below (g := ga) (by first | (with_reducible exact BA.out) | (with_reducible exact blk_drewN BA.out _) | (with_reducible exact blk_drew BA.out) | ((with_reducible repeat (first | refine blk_drewN ?_ _ | refine blk_drew ?_ | refine blk_alloc ?_ _)); exact BA.out)) hb); have n2_ := Aside0.mk (below_step (by repeat (first | (with_reducible first | exact HB.out | apply below_alloc | apply pw_below_drewN | apply below_drew1 | refine below_set ?_ GE122.out | refine below_set ?_ GEA.out) | exact HB.out)) hb); have n3_ := Aside0.mk (below_step (by repeat (first | (with_reducible first | exact HB1.out | apply below_alloc | apply pw_below_drewN | apply below_drew1 | refine below_set ?_ GA1.out) | exact HB1.out)) hb); clear BK122 BA HB HB1; have BK122 := n0_; have BA := n1_; have HB := n2_; have HB1 := n3_; clear n0_ n1_ n2_ n3_ hb; have hcb0 : w29.cell? ⟨ga, 0, none⟩ = some (.int .i64 a) := (blk_cell BA.out 0).trans rfl; have hcb1 : w29.cell? ⟨ga, 1, none⟩ = some (.int .i64 b) := (blk_cell BA.out 1).trans rfl; have hfb0 := blk_frozen BA.out 0; have hfb1 := blk_frozen BA.out 1; have hcs0 : w29.cell? ⟨gb122, 0, none⟩ = some (.int .i64 x123000_2) := (blk_cell BK122.out 0).trans rfl; have hcs1 : w29.cell? ⟨gb122, 1, none⟩ = some (.int .i64 x123001_2) := (blk_cell BK122.out 1).trans rfl; have hcs2 : w29.cell? ⟨gb122, 2, none⟩ = some (.int .i64 x123002_2) := (blk_cell BK122.out 2).trans rfl; have hfs0 := blk_frozen BK122.out 0; have hfs1 := blk_frozen BK122.out 1; have hfs2 := blk_frozen BK122.out 2))
                                      (try (any_goals (exfalso; have h1_ := of_decide_eq_true c31b1; omega)))
                                      go_roundg k4
                                      case measure => have := HJ2.out; have := HK2.out; have := HJ11.out; have := HK4.out; omega
                                      case rel => exact ⟨2, a, v, (by first | rfl | (simp; done)), ⟨by simpa using H⟩, ⟨by have := HK4.out; omega⟩, ⟨by (with_reducible repeat (first | refine blk_drewN ?_ _ | refine blk_drew ?_ | refine blk_alloc ?_ _)); refine blk_put (cs := #[.int .i64 a, .int .i64 b]) ?_ 1 _ rfl; (with_reducible repeat (first | refine blk_drewN ?_ _ | refine blk_drew ?_ | refine blk_alloc ?_ _)); exact BA.out⟩, ⟨by repeat (first | (with_reducible first | exact HB1.out | apply below_alloc | apply pw_below_drewN | apply below_drew1 | refine below_set ?_ GA1.out) | exact HB1.out)⟩, ⟨by repeat (first | (with_reducible first | exact HB.out | apply below_alloc | apply pw_below_drewN | apply below_drew1 | refine below_set ?_ GE122.out | refine below_set ?_ GEA.out) | exact HB.out)⟩⟩
                                    | false =>
                                      have H := H3.out
                                      clear H3
                                      simp only [Bool.false_eq_true, if_false, Option.some.injEq] at H
                                      subst H
                                      have H := HR.out
                                      clear HR
                                      simp only [Option.some.injEq, Prod.mk.injEq] at H
                                      obtain ⟨rfl, rfl, rfl, rfl⟩ := H
                                      go_wp2_with (first | ((with_reducible refine gate_callee (f := 30) rfl ?_); refine goesL_ (some 58) rfl rfl Tryd.func30 (by kernel_rfl) rfl #[.string (rdOf ByteArray.empty ys (1 : Int))] rfl (by (try simp only [List.map_toArray, List.map_cons, List.map_nil]); first | done | rfl) ?_; (with_reducible refine (impl_ReadDecimal.calls (rdOf ByteArray.empty ys (1 : Int)) v false _ ?side1 D.out).mono ?_); (case side1 => exact Go.Proofs.YtaddjeoncbmohaaDoor.MyDoor.Door.go HT.out (by repeat (first | (with_reducible first | exact HB.out | apply below_alloc | apply pw_below_drewN | apply below_drew1 | refine below_set ?_ GE122.out | refine below_set ?_ GEA.out) | exact HB.out))); rintro e w29 ⟨rfl, hb⟩; refine ⟨_, rfl, ?_⟩; have n0_ := Aside0.mk (blk_below (g := gb122) (by first | (with_reducible exact BK122.out) | (with_reducible exact blk_drewN BK122.out _) | (with_reducible exact blk_drew BK122.out) | ((with_reducible repeat (first | refine blk_drewN ?_ _ | refine blk_drew ?_ | refine blk_alloc ?_ _)); exact BK122.out)) hb); have n1_ := Aside0.mk (blk_below (g := ga) (by first | (with_reducible exact BA.out) | (with_reducible exact blk_drewN BA.out _) | (with_reducible exact blk_drew BA.out) | ((with_reducible repeat (first | refine blk_drewN ?_ _ | refine blk_drew ?_ | refine blk_alloc ?_ _)); exact BA.out)) hb); have n2_ := Aside0.mk (below_step (by repeat (first | (with_reducible first | exact HB.out | apply below_alloc | apply pw_below_drewN | apply below_drew1 | refine below_set ?_ GE122.out | refine below_set ?_ GEA.out) | exact HB.out)) hb); have n3_ := Aside0.mk (below_step (by repeat (first | (with_reducible first | exact HB1.out | apply below_alloc | apply pw_below_drewN | apply below_drew1 | refine below_set ?_ GA1.out) | exact HB1.out)) hb); clear BK122 BA HB HB1; have BK122 := n0_; have BA := n1_; have HB := n2_; have HB1 := n3_; clear n0_ n1_ n2_ n3_ hb; have hcb0 : w29.cell? ⟨ga, 0, none⟩ = some (.int .i64 a) := (blk_cell BA.out 0).trans rfl; have hcb1 : w29.cell? ⟨ga, 1, none⟩ = some (.int .i64 b) := (blk_cell BA.out 1).trans rfl; have hfb0 := blk_frozen BA.out 0; have hfb1 := blk_frozen BA.out 1; have hcs0 : w29.cell? ⟨gb122, 0, none⟩ = some (.int .i64 x123000_2) := (blk_cell BK122.out 0).trans rfl; have hcs1 : w29.cell? ⟨gb122, 1, none⟩ = some (.int .i64 x123001_2) := (blk_cell BK122.out 1).trans rfl; have hcs2 : w29.cell? ⟨gb122, 2, none⟩ = some (.int .i64 x123002_2) := (blk_cell BK122.out 2).trans rfl; have hfs0 := blk_frozen BK122.out 0; have hfs1 := blk_frozen BK122.out 1; have hfs2 := blk_frozen BK122.out 2))
                                      (try (any_goals (exfalso; have h1_ := of_decide_eq_true c31b1; omega)))
                                      refine bodyPost_ret (results_ct rfl _ _ gb122 35 #[.int .i64 0, .int .i64 0, .int .i64 0] (0, 0) _ rfl (by (with_reducible repeat (first | refine blk_drewN ?_ _ | refine blk_drew ?_ | refine blk_alloc ?_ _)); refine blk_put (cs := #[.int .i64 0, .int .i64 0, .int .i64 x123002_2]) ?_ 2 _ rfl; (with_reducible repeat (first | refine blk_drewN ?_ _ | refine blk_drew ?_ | refine blk_alloc ?_ _)); refine blk_put (cs := #[.int .i64 0, .int .i64 x123001_2, .int .i64 x123002_2]) ?_ 1 _ rfl; (with_reducible repeat (first | refine blk_drewN ?_ _ | refine blk_drew ?_ | refine blk_alloc ?_ _)); refine blk_put (cs := #[.int .i64 x123000_2, .int .i64 x123001_2, .int .i64 x123002_2]) ?_ 0 _ rfl; (with_reducible repeat (first | refine blk_drewN ?_ _ | refine blk_drew ?_ | refine blk_alloc ?_ _)); refine blk_far ?_ hne2 _; (with_reducible repeat (first | refine blk_drewN ?_ _ | refine blk_drew ?_ | refine blk_alloc ?_ _)); exact BK122.out) Tryd.underlying35 rfl (by kernel_rfl)) rfl ?_
                                      exact ⟨by first | rfl | (simp; done), by repeat (first | (with_reducible first | exact HB.out | apply below_alloc | apply pw_below_drewN | apply below_drew1 | refine below_set ?_ GE122.out | refine below_set ?_ GEA.out) | exact HB.out)⟩
                                · rw [if_neg c33] at H; exact absurd H (by simp)
                              · rw [if_neg c32] at H; exact absurd H (by simp)
                            · rw [if_neg c31] at H
                              have c31b0 : decide (x < (ys.length : Int)) = false := decide_eq_false c31
                              clear c31
                              obtain rfl := Option.some.inj H
                              clear H
                              have H := HR.out
                              clear HR
                              simp only [Option.some.injEq, Prod.mk.injEq] at H
                              obtain ⟨rfl, rfl, rfl, rfl⟩ := H
                              have hcr0 : wr.cell? ⟨gb122, 0, none⟩ = some (.int .i64 x123000_2) := (blk_cell BK122.out 0).trans rfl
                              have hcr1 : wr.cell? ⟨gb122, 1, none⟩ = some (.int .i64 x123001_2) := (blk_cell BK122.out 1).trans rfl
                              have hcr2 : wr.cell? ⟨gb122, 2, none⟩ = some (.int .i64 x123002_2) := (blk_cell BK122.out 2).trans rfl
                              have hfr0 := blk_frozen BK122.out 0
                              have hfr1 := blk_frozen BK122.out 1
                              have hfr2 := blk_frozen BK122.out 2
                              go_wp2
                              refine bodyPost_ret (results_ct rfl _ _ gb122 35 #[.int .i64 x6_2, .int .i64 a, .int .i64 b] (0, 0) _ rfl (by (with_reducible repeat (first | refine blk_drewN ?_ _ | refine blk_drew ?_ | refine blk_alloc ?_ _)); refine blk_put (cs := #[.int .i64 x6_2, .int .i64 a, .int .i64 x123002_2]) ?_ 2 _ rfl; (with_reducible repeat (first | refine blk_drewN ?_ _ | refine blk_drew ?_ | refine blk_alloc ?_ _)); refine blk_put (cs := #[.int .i64 x6_2, .int .i64 x123001_2, .int .i64 x123002_2]) ?_ 1 _ rfl; (with_reducible repeat (first | refine blk_drewN ?_ _ | refine blk_drew ?_ | refine blk_alloc ?_ _)); refine blk_put (cs := #[.int .i64 x123000_2, .int .i64 x123001_2, .int .i64 x123002_2]) ?_ 0 _ rfl; (with_reducible repeat (first | refine blk_drewN ?_ _ | refine blk_drew ?_ | refine blk_alloc ?_ _)); exact BK122.out) Tryd.underlying35 rfl (by kernel_rfl)) rfl ?_
                              exact ⟨by first | rfl | (simp; done), by repeat (first | (with_reducible first | exact HB.out | apply below_alloc | apply pw_below_drewN | apply below_drew1 | refine below_set ?_ GE122.out | refine below_set ?_ GEA.out) | exact HB.out)⟩
                    · rw [if_neg c30] at H; exact absurd H (by simp)
            · rw [if_neg c10] at H
              have c10b0 : decide (x6_2 ≤ 8) = false := decide_eq_false c10
              clear c10
              simp only [Option.some.injEq, Prod.mk.injEq] at H
              obtain ⟨rfl, rfl, rfl, rfl⟩ := H
              have hcz43_0 : wr.cell? ⟨gb122, 0, none⟩ = some (.int .i64 x123000_2) := (blk_cell BK122.out 0).trans rfl
              have hcz43_1 : wr.cell? ⟨gb122, 1, none⟩ = some (.int .i64 x123001_2) := (blk_cell BK122.out 1).trans rfl
              have hcz43_2 : wr.cell? ⟨gb122, 2, none⟩ = some (.int .i64 x123002_2) := (blk_cell BK122.out 2).trans rfl
              have hfz43_0 := blk_frozen BK122.out 0
              have hfz43_1 := blk_frozen BK122.out 1
              have hfz43_2 := blk_frozen BK122.out 2
              go_wp2
              refine bodyPost_ret (results_ct rfl _ _ gb122 35 #[.int .i64 0, .int .i64 0, .int .i64 0] (0, 0) _ rfl (by (with_reducible repeat (first | refine blk_drewN ?_ _ | refine blk_drew ?_ | refine blk_alloc ?_ _)); refine blk_put (cs := #[.int .i64 0, .int .i64 0, .int .i64 x123002_2]) ?_ 2 _ rfl; (with_reducible repeat (first | refine blk_drewN ?_ _ | refine blk_drew ?_ | refine blk_alloc ?_ _)); refine blk_put (cs := #[.int .i64 0, .int .i64 x123001_2, .int .i64 x123002_2]) ?_ 1 _ rfl; (with_reducible repeat (first | refine blk_drewN ?_ _ | refine blk_drew ?_ | refine blk_alloc ?_ _)); refine blk_put (cs := #[.int .i64 x123000_2, .int .i64 x123001_2, .int .i64 x123002_2]) ?_ 0 _ rfl; (with_reducible repeat (first | refine blk_drewN ?_ _ | refine blk_drew ?_ | refine blk_alloc ?_ _)); exact BK122.out) Tryd.underlying35 rfl (by kernel_rfl)) rfl ?_
              exact ⟨by first | rfl | (simp [errW_none, errW_some] <;> rfl) | (simp [*, errW_none, errW_some] <;> rfl), by repeat (first | (with_reducible first | exact HB.out | apply below_alloc | apply pw_below_drewN | apply below_drew1 | refine below_set ?_ GE122.out) | exact HB.out)⟩



end Go.Proofs.YtaddjeoncbmohaaDoor.MFnCmds
