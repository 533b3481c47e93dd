/- Made by a program of this session (out of the kit's print, with hand-made contracts): what each Go function that the law reaches computes, and that the machine's call does so. -/
import Derived.Test.YtfinjkjnoobbjaaXFnTeamsMyReg
import Derived.Test.YtfinjkjnoobbjaaMFnTeamsx0
import Derived.Test.YtfinjkjnoobbjaaMFnTeamsx4
import Derived.Test.YtfinjkjnoobbjaaMFnTeamsx7
namespace Go.Proofs.Ytfinjkjnoobbjaa.MFnTeams
open Go.RowKit Go.Proofs.YtfinjkjnoobbjaaW.PrintWords Go.Proofs.YtfinjkjnoobbjaaW.PrintLast Go.Proofs.YtfinjkjnoobbjaaW.PrintMore Go.Proofs.Ytfinjkjnoobbjaa.MyReg
attribute [local go_sem] max2_int min2_int max_two min_two max_three min_three max_four min_four   -- for this text's walks alone
set_option linter.unusedVariables false
set_option linter.unusedSimpArgs false

/-! ### spec_Around: function 134 -/
def spec_Around.l0 : Nat → List Int → List Int → Int → Int → Int → ByteArray → Option (List Int)
  | 0, _, _, _, _, _, _ => none
  | k + 1, x5, x8, x9, x209000, x209001, x209002 => if x9 < 4 then (if 0 ≤ x9 then (if x9 < (x8.length : Int) then ((spec_FreeAt.f k x209000 x209001 x209002 (rd x8 x9)).bind fun t223 => (if t223 = true then (if x5.length < 17592186044416 then (spec_Around.l0 k (x5 ++ [rd x8 x9]) x8 (wrap64 (x9 + 1)) x209000 x209001 x209002) else (none)) else (spec_Around.l0 k x5 x8 (wrap64 (x9 + 1)) x209000 x209001 x209002))) else (none)) else (none)) else (some x5)
def spec_Around.f (k : Nat) (a0_0 : Int) (a0_1 : Int) (a0_2 : ByteArray) (a1 : Int) : Option (List Int) := (some (([] : List Int) : List Int)).bind fun y209 => ((spec_FreeAt.f k a0_0 a0_1 a0_2 a1).bind fun t212 => (if t212 = true then ((spec_SpotOf.f k a0_0 a0_1 a0_2 a1).bind fun bt213 => ((spec_CellAt.f k a0_0 a0_1 a0_2 bt213.1 (wrap64 (bt213.2 - 1))).bind fun t215 => ((spec_CellAt.f k a0_0 a0_1 a0_2 (wrap64 (bt213.1 - 1)) bt213.2).bind fun t216 => ((spec_CellAt.f k a0_0 a0_1 a0_2 (wrap64 (bt213.1 + 1)) bt213.2).bind fun t217 => ((spec_CellAt.f k a0_0 a0_1 a0_2 bt213.1 (wrap64 (bt213.2 + 1))).bind fun t218 => (spec_Around.l0 k y209 (([t215, t216, t217, t218] : List Int)) 0 a0_0 a0_1 a0_2)))))) else (some y209)))
theorem spec_Around.mono_l : ∀ k, (∀ y0 y1 y2 y3 y4 y5, LeO (spec_Around.l0 k y0 y1 y2 y3 y4 y5) (spec_Around.l0 (k + 1) y0 y1 y2 y3 y4 y5))
  | 0 => fun _ _ _ _ _ _ r h => by simp [spec_Around.l0] at h
  | k + 1 => by
    have ih0 := spec_Around.mono_l k
    · intro y0 y1 y2 y3 y4 y5
      unfold spec_Around.l0
      repeat' first
      | (with_reducible exact ih0 _ _ _ _ _ _)
      | (with_reducible exact spec_CellAt.mono _ _ _ _ _ _)
      | (with_reducible exact spec_FreeAt.mono _ _ _ _ _)
      | (with_reducible exact spec_SpotOf.mono _ _ _ _ _)
      | (with_reducible exact LeO.refl _)
      | (with_reducible exact LeO.none _)
      | (with_reducible refine LeO.ite ?_ ?_)
      | (with_reducible refine LeO.bind ?_ (fun _ => ?_))
      | exact ih0 _ _ _ _ _ _
      | exact spec_CellAt.mono _ _ _ _ _ _
      | exact spec_FreeAt.mono _ _ _ _ _
      | exact spec_SpotOf.mono _ _ _ _ _
      | exact LeO.none _
      | refine LeO.ite ?_ ?_
      | refine LeO.bind ?_ (fun _ => ?_)
theorem spec_Around.mono : ∀ a0 a1 a2 a3 k, LeO (spec_Around.f k a0 a1 a2 a3) (spec_Around.f (k + 1) a0 a1 a2 a3) := by
  intro a0 a1 a2 a3 k
  have ih0 := spec_Around.mono_l k
  unfold spec_Around.f
  repeat' first
      | (with_reducible exact ih0 _ _ _ _ _ _)
      | (with_reducible exact spec_CellAt.mono _ _ _ _ _ _)
      | (with_reducible exact spec_FreeAt.mono _ _ _ _ _)
      | (with_reducible exact spec_SpotOf.mono _ _ _ _ _)
      | (with_reducible exact LeO.refl _)
      | (with_reducible exact LeO.none _)
      | (with_reducible refine LeO.ite ?_ ?_)
      | (with_reducible refine LeO.bind ?_ (fun _ => ?_))
      | exact ih0 _ _ _ _ _ _
      | exact spec_CellAt.mono _ _ _ _ _ _
      | exact spec_FreeAt.mono _ _ _ _ _
      | exact spec_SpotOf.mono _ _ _ _ _
      | exact LeO.none _
      | refine LeO.ite ?_ ?_
      | refine LeO.bind ?_ (fun _ => ?_)
def spec_Around.T5 : Bool × List (List Nat × List Nat) := (true, [([], []), ([], []), ([], []), ([2], [2]), ([0, 1, 3], [0, 1, 3]), ([], []), ([], []), ([6], [6]), ([], []), ([5, 7, 8, 4], [5, 7, 8]), ([], []), ([], []), ([11], [11]), ([], []), ([10, 12, 13, 9], [10, 12, 13]), ([], []), ([], []), ([], []), ([17], [17]), ([15, 16, 18, 14], [15, 16, 18]), ([4, 9, 14, 19], [4, 9, 14, 19]), ([20, 19, 0, 1, 2, 3, 4, 5, 6, 7, 8, 9, 10, 11, 12, 13, 14, 15, 16, 17, 18, 19, 20], [20])])
def spec_Around.B5 : List Nat := [0, 0, 0, 4, 15, 0, 0, 64, 0, 511, 0, 0, 2048, 0, 16383, 0, 0, 0, 131072, 524287, 1048575, 2097151]
theorem spec_Around.tab5 : rtab .any (opsOf Try.f134 5) = spec_Around.T5 := by kernel_rfl
theorem spec_Around.bits5 : waitsOk spec_Around.T5.2 spec_Around.B5 = true := by kernel_rfl
set_option maxHeartbeats 8000000 in
set_option maxRecDepth 100000 in
theorem spec_Around.calls (k : Nat) (a0_0 : Int) (a0_1 : Int) (a0_2 : ByteArray) (a1 : Int) (r : List Int) (w : World) (h : spec_Around.f k a0_0 a0_1 a0_2 a1 = some r) :
    Calls Try.prog 134 #[.agg #[.int .i64 a0_0, .int .i64 a0_1, .string a0_2], .int .i64 a1] w fun e w' => ∃ v0_ : Value, e = .returned (v0_) ∧ Kd.R (Kd.int .i64) 3 w' w.heap.size (fun _ => True) v0_ r ∧ Below w.heap.size w w' := by
  have hu27 := Try.underlying27
  have HB := Aside0.mk (Below.refl w.heap.size w)
  have H : ((some (([] : List Int) : List Int)).bind fun y209 => ((spec_FreeAt.f k a0_0 a0_1 a0_2 a1).bind fun t212 => (if t212 = true then ((spec_SpotOf.f k a0_0 a0_1 a0_2 a1).bind fun bt213 => ((spec_CellAt.f k a0_0 a0_1 a0_2 bt213.1 (wrap64 (bt213.2 - 1))).bind fun t215 => ((spec_CellAt.f k a0_0 a0_1 a0_2 (wrap64 (bt213.1 - 1)) bt213.2).bind fun t216 => ((spec_CellAt.f k a0_0 a0_1 a0_2 (wrap64 (bt213.1 + 1)) bt213.2).bind fun t217 => ((spec_CellAt.f k a0_0 a0_1 a0_2 bt213.1 (wrap64 (bt213.2 + 1))).bind fun t218 => (spec_Around.l0 k y209 (([t215, t216, t217, t218] : List Int)) 0 a0_0 a0_1 a0_2)))))) else (some y209)))) = some r := h
  clear h
  obtain ⟨y209, hy209⟩ : ∃ y_ : List Int, y_ = (([] : List Int)) := ⟨_, rfl⟩
  replace H : ((spec_FreeAt.f k a0_0 a0_1 a0_2 a1).bind fun t212 => (if t212 = true then ((spec_SpotOf.f k a0_0 a0_1 a0_2 a1).bind fun bt213 => ((spec_CellAt.f k a0_0 a0_1 a0_2 bt213.1 (wrap64 (bt213.2 - 1))).bind fun t215 => ((spec_CellAt.f k a0_0 a0_1 a0_2 (wrap64 (bt213.1 - 1)) bt213.2).bind fun t216 => ((spec_CellAt.f k a0_0 a0_1 a0_2 (wrap64 (bt213.1 + 1)) bt213.2).bind fun t217 => ((spec_CellAt.f k a0_0 a0_1 a0_2 bt213.1 (wrap64 (bt213.2 + 1))).bind fun t218 => (spec_Around.l0 k y209 (([t215, t216, t217, t218] : List Int)) 0 a0_0 a0_1 a0_2)))))) else (some y209))) = some r := by first | (rw [hy209]; with_reducible exact H) | (have H2_ := (Option.bind_some _ _).symm.trans H; rw [hy209]; with_reducible exact H2_) | (have H2_ := (Option.bind_some _ _).symm.trans H; with_reducible exact H2_) | with_reducible exact H | (rw [hy209]; exact H) | exact H
  have Ny209 := Aside0.mk hy209
  clear hy209
  replace H := Option.bind_eq_some_iff.mp H
  obtain ⟨t212, A30, H⟩ := H
  replace H : (if t212 = true then ((spec_SpotOf.f k a0_0 a0_1 a0_2 a1).bind fun bt213 => ((spec_CellAt.f k a0_0 a0_1 a0_2 bt213.1 (wrap64 (bt213.2 - 1))).bind fun t215 => ((spec_CellAt.f k a0_0 a0_1 a0_2 (wrap64 (bt213.1 - 1)) bt213.2).bind fun t216 => ((spec_CellAt.f k a0_0 a0_1 a0_2 (wrap64 (bt213.1 + 1)) bt213.2).bind fun t217 => ((spec_CellAt.f k a0_0 a0_1 a0_2 bt213.1 (wrap64 (bt213.2 + 1))).bind fun t218 => (spec_Around.l0 k y209 (([t215, t216, t217, t218] : List Int)) 0 a0_0 a0_1 a0_2)))))) else (some y209)) = some r := H
  have A3 := Aside0.mk A30
  clear A30
  by_cases c4 : t212 = true
  rotate_left
  · replace c4 := Bool.eq_false_iff.mpr c4
    subst c4
    have H1 : (some y209) = some r := by rw [if_neg (show ¬ (false = true) by decide)] at H; exact H
    clear H
    have H := H1
    clear H1
    obtain rfl := Option.some.inj H
    go_enter Try.func134, Try.ntmps134
    go_wp2_with (first | ((with_reducible refine gate_dst (N := 2) rfl ?_); refine box_event ?hg (N := 2) ?hd (cs := #[.int .i64 a0_0, .int .i64 a0_1, .string a0_2]) (t := 27) ?hr ?_; (case hd => rfl); (case hg => rfl); (case hr => first | (go_simp; done) | (go_simp; rfl)); intro gb208 hg w37 hbox hb; have n0_ := Aside0.mk (below_step (by repeat (first | (with_reducible first | exact HB.out | apply wa | apply wN | apply wd) | exact HB.out)) hb); have n1_ := Aside0.mk (hbox); have n2_ := Aside0.mk ((by rw [hg]; exact (below_size (by repeat (first | (with_reducible first | exact HB.out | apply wa | apply wN | apply wd) | exact HB.out))) : w.heap.size ≤ gb208)); have n3_ := n2_; clear HB; have HB := n0_; have BK208 := n1_; have GW208 := n2_; have GE208 := n3_; clear n0_ n1_ n2_ n3_; clear hb hbox hg) | ((with_reducible refine gate_dst (N := 10) rfl ?_); refine Kd.R_lit (Kd.int .i64) _ 3 ?hg (N := 10) ?hd (xs := ([] : List Int)) (inner := []) (ok := fun _ => True) (okp := fun _ => True) ?hr ?hp (fun _ hk => hk) trivial (Below.refl _ _) (Nat.le_refl _) (by simp) ?_; (case hd => rfl); (case hg => rfl); (case hr => first | (go_simp; done) | (go_simp; rfl)); (case hp => exact (Reps.none _ _)); intro v210 w38 ho39 hb hg_ hnew_; clear hg_ hnew_; (first | rw [← Ny209.out] at ho39 | (simp only [Int.reduceToNat] at ho39; rw [← Ny209.out] at ho39)); have n0_ := Aside0.mk (Kd.R_lower ho39 (below_size (by repeat (first | (with_reducible first | exact HB.out | apply wa | apply wN | apply wd | refine ws ?_ GE208.out) | exact HB.out)))); have n1_ := Aside0.mk (bb (g := gb208) (by first | (with_reducible exact BK208.out) | (with_reducible exact bN BK208.out _) | (with_reducible exact bd BK208.out) | ((with_reducible repeat first | apply bN | apply bd | apply ba); exact BK208.out)) hb); have n2_ := Aside0.mk (below_step (by repeat (first | (with_reducible first | exact HB.out | apply wa | apply wN | apply wd | refine ws ?_ GE208.out) | exact HB.out)) hb); clear BK208; clear HB; have HO211 := n0_; have BK208 := n1_; have HB := n2_; clear n0_ n1_ n2_; clear hb ho39; have hcz40_0 : w38.cell? ⟨gb208, 0, none⟩ = some (.int .i64 a0_0) := (bc BK208.out 0).trans rfl; have hcz40_1 : w38.cell? ⟨gb208, 1, none⟩ = some (.int .i64 a0_1) := (bc BK208.out 1).trans rfl; have hcz40_2 : w38.cell? ⟨gb208, 2, none⟩ = some (.string a0_2) := (bc BK208.out 2).trans rfl) | ((with_reducible refine gate_callee (f := 78) rfl ?_); refine goesL_ (some 13) rfl rfl Try.func78 (by kernel_rfl) rfl #[.agg #[.int .i64 a0_0, .int .i64 a0_1, .string a0_2], .int .i64 a1] rfl (by (try simp only [List.map_toArray, List.map_cons, List.map_nil]); first | done | rfl | (simp only [List.length_drop, List.length_take]; rfl)) ?_; (with_reducible refine (spec_FreeAt.calls k a0_0 a0_1 a0_2 a1 false _ A3.out).mono ?_); rintro e w41 ⟨rfl, hb⟩; refine ⟨_, rfl, ?_⟩; have n0_ := Aside0.mk (Kd.Rb (by (with_reducible repeat (first | apply Kd.Ra | apply Kd.Rn | apply Kd.Rd)); exact HO211.out) hb); have n1_ := Aside0.mk (bb (g := gb208) (by first | (with_reducible exact BK208.out) | (with_reducible exact bN BK208.out _) | (with_reducible exact bd BK208.out) | ((with_reducible repeat first | apply bN | apply bd | apply ba); exact BK208.out)) hb); have n2_ := Aside0.mk (below_step (by repeat (first | (with_reducible first | exact HB.out | apply wa | apply wN | apply wd | refine ws ?_ GE208.out) | exact HB.out)) hb); clear HO211; clear BK208; clear HB; have HO211 := n0_; have BK208 := n1_; have HB := n2_; clear n0_ n1_ n2_; (try clear hb); (try clear hb2); (try clear hk); (try clear hi)))
    go_ret
    exact ⟨_, by first | rfl | (simp [errW_none, errW_some] <;> rfl) | (simp [*, errW_none, errW_some] <;> rfl), by (with_reducible repeat (first | apply Kd.Ra | apply Kd.Rn | apply Kd.Rd)); exact HO211.out, by repeat (first | (with_reducible first | exact HB.out | apply wa | apply wN | apply wd | refine ws ?_ GE208.out) | exact HB.out)⟩
  subst c4
  have H1 : ((spec_SpotOf.f k a0_0 a0_1 a0_2 a1).bind fun bt213 => ((spec_CellAt.f k a0_0 a0_1 a0_2 bt213.1 (wrap64 (bt213.2 - 1))).bind fun t215 => ((spec_CellAt.f k a0_0 a0_1 a0_2 (wrap64 (bt213.1 - 1)) bt213.2).bind fun t216 => ((spec_CellAt.f k a0_0 a0_1 a0_2 (wrap64 (bt213.1 + 1)) bt213.2).bind fun t217 => ((spec_CellAt.f k a0_0 a0_1 a0_2 bt213.1 (wrap64 (bt213.2 + 1))).bind fun t218 => (spec_Around.l0 k y209 (([t215, t216, t217, t218] : List Int)) 0 a0_0 a0_1 a0_2)))))) = some r := by rw [if_pos rfl] at H; exact H
  clear H
  have H := H1
  clear H1
  replace H := Option.bind_eq_some_iff.mp H
  obtain ⟨⟨t213, t214⟩, A50, H⟩ := H
  replace H : ((spec_CellAt.f k a0_0 a0_1 a0_2 t213 (wrap64 (t214 - 1))).bind fun t215 => ((spec_CellAt.f k a0_0 a0_1 a0_2 (wrap64 (t213 - 1)) t214).bind fun t216 => ((spec_CellAt.f k a0_0 a0_1 a0_2 (wrap64 (t213 + 1)) t214).bind fun t217 => ((spec_CellAt.f k a0_0 a0_1 a0_2 t213 (wrap64 (t214 + 1))).bind fun t218 => (spec_Around.l0 k y209 (([t215, t216, t217, t218] : List Int)) 0 a0_0 a0_1 a0_2))))) = some r := H
  have A5 := Aside0.mk A50
  clear A50
  replace H := Option.bind_eq_some_iff.mp H
  obtain ⟨t215, A60, H⟩ := H
  replace H : ((spec_CellAt.f k a0_0 a0_1 a0_2 (wrap64 (t213 - 1)) t214).bind fun t216 => ((spec_CellAt.f k a0_0 a0_1 a0_2 (wrap64 (t213 + 1)) t214).bind fun t217 => ((spec_CellAt.f k a0_0 a0_1 a0_2 t213 (wrap64 (t214 + 1))).bind fun t218 => (spec_Around.l0 k y209 (([t215, t216, t217, t218] : List Int)) 0 a0_0 a0_1 a0_2)))) = some r := H
  have A6 := Aside0.mk A60
  clear A60
  replace H := Option.bind_eq_some_iff.mp H
  obtain ⟨t216, A70, H⟩ := H
  replace H : ((spec_CellAt.f k a0_0 a0_1 a0_2 (wrap64 (t213 + 1)) t214).bind fun t217 => ((spec_CellAt.f k a0_0 a0_1 a0_2 t213 (wrap64 (t214 + 1))).bind fun t218 => (spec_Around.l0 k y209 (([t215, t216, t217, t218] : List Int)) 0 a0_0 a0_1 a0_2))) = some r := H
  have A7 := Aside0.mk A70
  clear A70
  replace H := Option.bind_eq_some_iff.mp H
  obtain ⟨t217, A80, H⟩ := H
  replace H : ((spec_CellAt.f k a0_0 a0_1 a0_2 t213 (wrap64 (t214 + 1))).bind fun t218 => (spec_Around.l0 k y209 (([t215, t216, t217, t218] : List Int)) 0 a0_0 a0_1 a0_2)) = some r := H
  have A8 := Aside0.mk A80
  clear A80
  replace H := Option.bind_eq_some_iff.mp H
  obtain ⟨t218, A90, H⟩ := H
  replace H : (spec_Around.l0 k y209 (([t215, t216, t217, t218] : List Int)) 0 a0_0 a0_1 a0_2) = some r := H
  have A9 := Aside0.mk A90
  clear A90
  obtain ⟨y219, hy219⟩ : ∃ y_ : List Int, y_ = (([t215, t216, t217, t218] : List Int)) := ⟨_, rfl⟩
  replace H : (spec_Around.l0 k y209 y219 0 a0_0 a0_1 a0_2) = some r := by first | (rw [hy219]; with_reducible exact H) | (have H2_ := (Option.bind_some _ _).symm.trans H; rw [hy219]; with_reducible exact H2_) | (have H2_ := (Option.bind_some _ _).symm.trans H; with_reducible exact H2_) | with_reducible exact H | (rw [hy219]; exact H) | exact H
  have Ny219 := Aside0.mk hy219
  clear hy219
  have H' := Aside0.mk H
  clear H
  go_enter Try.func134, Try.ntmps134
  try go_wp2_with (first | ((with_reducible refine gate_dst (N := 2) rfl ?_); refine box_event ?hg (N := 2) ?hd (cs := #[.int .i64 a0_0, .int .i64 a0_1, .string a0_2]) (t := 27) ?hr ?_; (case hd => rfl); (case hg => rfl); (case hr => first | (go_simp; done) | (go_simp; rfl)); intro gb208 hg w10 hbox hb; have n0_ := Aside0.mk (below_step (by repeat (first | (with_reducible first | exact HB.out | apply wa | apply wN | apply wd) | exact HB.out)) hb); have n1_ := Aside0.mk (hbox); have n2_ := Aside0.mk ((by rw [hg]; exact (below_size (by repeat (first | (with_reducible first | exact HB.out | apply wa | apply wN | apply wd) | exact HB.out))) : w.heap.size ≤ gb208)); have n3_ := n2_; clear HB; have HB := n0_; have BK208 := n1_; have GW208 := n2_; have GE208 := n3_; clear n0_ n1_ n2_ n3_; clear hb hbox hg) | ((with_reducible refine gate_dst (N := 10) rfl ?_); refine Kd.R_lit (Kd.int .i64) _ 3 ?hg (N := 10) ?hd (xs := ([] : List Int)) (inner := []) (ok := fun _ => True) (okp := fun _ => True) ?hr ?hp (fun _ hk => hk) trivial (Below.refl _ _) (Nat.le_refl _) (by simp) ?_; (case hd => rfl); (case hg => rfl); (case hr => first | (go_simp; done) | (go_simp; rfl)); (case hp => exact (Reps.none _ _)); intro v210 w11 ho12 hb hg_ hnew_; clear hg_ hnew_; (first | rw [← Ny209.out] at ho12 | (simp only [Int.reduceToNat] at ho12; rw [← Ny209.out] at ho12)); have n0_ := Aside0.mk (Kd.R_lower ho12 (below_size (by repeat (first | (with_reducible first | exact HB.out | apply wa | apply wN | apply wd | refine ws ?_ GE208.out) | exact HB.out)))); have n1_ := Aside0.mk (bb (g := gb208) (by first | (with_reducible exact BK208.out) | (with_reducible exact bN BK208.out _) | (with_reducible exact bd BK208.out) | ((with_reducible repeat first | apply bN | apply bd | apply ba); exact BK208.out)) hb); have n2_ := Aside0.mk (below_step (by repeat (first | (with_reducible first | exact HB.out | apply wa | apply wN | apply wd | refine ws ?_ GE208.out) | exact HB.out)) hb); clear BK208; clear HB; have HO211 := n0_; have BK208 := n1_; have HB := n2_; clear n0_ n1_ n2_; clear hb ho12; have hcz13_0 : w11.cell? ⟨gb208, 0, none⟩ = some (.int .i64 a0_0) := (bc BK208.out 0).trans rfl; have hcz13_1 : w11.cell? ⟨gb208, 1, none⟩ = some (.int .i64 a0_1) := (bc BK208.out 1).trans rfl; have hcz13_2 : w11.cell? ⟨gb208, 2, none⟩ = some (.string a0_2) := (bc BK208.out 2).trans rfl) | ((with_reducible refine gate_callee (f := 78) rfl ?_); refine goesL_ (some 13) rfl rfl Try.func78 (by kernel_rfl) rfl #[.agg #[.int .i64 a0_0, .int .i64 a0_1, .string a0_2], .int .i64 a1] rfl (by (try simp only [List.map_toArray, List.map_cons, List.map_nil]); first | done | rfl | (simp only [List.length_drop, List.length_take]; rfl)) ?_; (with_reducible refine (spec_FreeAt.calls k a0_0 a0_1 a0_2 a1 true _ A3.out).mono ?_); rintro e w14 ⟨rfl, hb⟩; refine ⟨_, rfl, ?_⟩; have n0_ := Aside0.mk (Kd.Rb (by (with_reducible repeat (first | apply Kd.Ra | apply Kd.Rn | apply Kd.Rd)); exact HO211.out) hb); have n1_ := Aside0.mk (bb (g := gb208) (by first | (with_reducible exact BK208.out) | (with_reducible exact bN BK208.out _) | (with_reducible exact bd BK208.out) | ((with_reducible repeat first | apply bN | apply bd | apply ba); exact BK208.out)) hb); have n2_ := Aside0.mk (below_step (by repeat (first | (with_reducible first | exact HB.out | apply wa | apply wN | apply wd | refine ws ?_ GE208.out) | exact HB.out)) hb); clear HO211; clear BK208; clear HB; have HO211 := n0_; have BK208 := n1_; have HB := n2_; clear n0_ n1_ n2_; (try clear hb); (try clear hb2); (try clear hk); (try clear hi); have hcz15_0 : w14.cell? ⟨gb208, 0, none⟩ = some (.int .i64 a0_0) := (bc BK208.out 0).trans rfl; have hcz15_1 : w14.cell? ⟨gb208, 1, none⟩ = some (.int .i64 a0_1) := (bc BK208.out 1).trans rfl; have hcz15_2 : w14.cell? ⟨gb208, 2, none⟩ = some (.string a0_2) := (bc BK208.out 2).trans rfl) | ((with_reducible refine gate_callee (f := 163) rfl ?_); refine goesL_ (some 19) rfl rfl Try.func163 (by kernel_rfl) rfl #[.agg #[.int .i64 a0_0, .int .i64 a0_1, .string a0_2], .int .i64 a1] rfl (by (try simp only [List.map_toArray, List.map_cons, List.map_nil]); first | done | rfl | (simp only [List.length_drop, List.length_take]; rfl)) ?_; (with_reducible refine (spec_SpotOf.calls k a0_0 a0_1 a0_2 a1 t213 t214 _ A5.out).mono ?_); rintro e w16 ⟨rfl, hb⟩; refine ⟨_, rfl, ?_⟩; have n0_ := Aside0.mk (Kd.Rb (by (with_reducible repeat (first | apply Kd.Ra | apply Kd.Rn | apply Kd.Rd)); exact HO211.out) hb); have n1_ := Aside0.mk (bb (g := gb208) (by first | (with_reducible exact BK208.out) | (with_reducible exact bN BK208.out _) | (with_reducible exact bd BK208.out) | ((with_reducible repeat first | apply bN | apply bd | apply ba); exact BK208.out)) hb); have n2_ := Aside0.mk (below_step (by repeat (first | (with_reducible first | exact HB.out | apply wa | apply wN | apply wd | refine ws ?_ GE208.out) | exact HB.out)) hb); clear HO211; clear BK208; clear HB; have HO211 := n0_; have BK208 := n1_; have HB := n2_; clear n0_ n1_ n2_; (try clear hb); (try clear hb2); (try clear hk); (try clear hi)))
  have n0_ := Aside0.mk (Kd.Rd HO211.out)
  have n1_ := Aside0.mk (bd BK208.out)
  have n2_ := Aside0.mk (wd HB.out)
  clear HO211
  clear BK208
  clear HB
  have HO211 := n0_
  have BK208 := n1_
  have HB := n2_
  clear n0_ n1_ n2_
  refine start_ (n := 22) (S := fun w' => w'.cell? ⟨gb208, 0, none⟩ = some (.int .i64 a0_0) ∧ w'.cell? ⟨gb208, 1, none⟩ = some (.int .i64 a0_1) ∧ w'.cell? ⟨gb208, 2, none⟩ = some (.string a0_2)) (ds := []) #[false, false, false, false, false, false, false, false, false, false, false, false, false, false, false, false, false, false, false, false, false, false] (by kernel_rfl) rfl rfl ⟨(bc BK208.out 0).trans rfl, (bc BK208.out 1).trans rfl, (bc BK208.out 2).trans rfl⟩ (fun hHeld => ?_); refine with_tabW spec_Around.tab5 spec_Around.bits5 (fun HT_ HW_ => ?_)
  generalize w16.drew = w17 at HO211 BK208 HB hHeld ⊢
  refine plan_ [(1, 23, 0), (2, 24, 0), (3, 25, 0), (6, 28, 0), (7, 29, 0), (8, 30, 0), (11, 33, 0), (12, 34, 0), (13, 35, 0), (16, 38, 0), (17, 39, 0), (18, 40, 0), (0, 22, 2), (5, 27, 2), (10, 32, 2), (15, 37, 2)] ?_
  repeat (first | (refine p0_ (v := ?_) (a' := ?_) HT_.out (by rfl) (by rfl) (by rfl) (by kernel_rfl) (by exact fun _ _ _ h => h) (Or.inl ⟨by rfl, ?_⟩) ?_ ?_; rotate_left; (· (intro w'; go_simp; with_reducible rfl)); rotate_left; (· (simp only [Act.put, List.setIfInBounds_toArray, List.set_cons_zero, List.set_cons_succ, i64_w, i32_w]; rfl))) | (refine p2_ (v := ?_) (a' := ?_) HT_.out HW_.out (by rfl) (by rfl) (by rfl) (by kernel_rfl) (by exact fun _ _ _ h => h) (Or.inl ⟨by rfl, ?_⟩) hHeld ?_ ?_; rotate_left; (· (rintro w' ⟨s0, s1, s2⟩; go_simp; with_reducible rfl)); rotate_left; (· (simp only [Act.put, List.setIfInBounds_toArray, List.set_cons_zero, List.set_cons_succ, i64_w, i32_w]; rfl))))
  with_reducible refine end_ ?_
  refine one_ (i := 4) (N := some 26) #[true, true, true, true, true, true, true, true, true, false, true, true, true, true, false, true, true, true, true, false, false, false] rfl rfl (one_of HT_.out (by kernel_rfl)) (by decide) (fun K hK => ?_)
  refine goes_ Try.func164 (by kernel_rfl) rfl #[.agg #[.int .i64 a0_0, .int .i64 a0_1, .string a0_2], .int .i64 t213, .int .i64 (wrap64 (t214 - 1))] (by rfl) rfl rfl (by (try simp only [List.map_toArray, List.map_cons, List.map_nil]); first | done | rfl | (simp only [List.length_drop, List.length_take]; rfl)) ?_
  with_reducible refine (spec_CellAt.calls k a0_0 a0_1 a0_2 t213 (wrap64 (t214 - 1)) t215 _ A6.out).mono ?_
  rintro e w18 ⟨rfl, hb⟩
  refine ⟨_, rfl, ?_⟩
  have n0_ := Aside0.mk (Kd.Rb (by (with_reducible repeat (first | apply Kd.Ra | apply Kd.Rn | apply Kd.Rd)); exact HO211.out) hb)
  have n1_ := Aside0.mk (bb (g := gb208) (by first | (with_reducible exact BK208.out) | (with_reducible exact bN BK208.out _) | (with_reducible exact bd BK208.out) | ((with_reducible repeat first | apply bN | apply bd | apply ba); exact BK208.out)) hb)
  have n2_ := Aside0.mk (below_step (by repeat (first | (with_reducible first | exact HB.out | apply wa | apply wN | apply wd | refine ws ?_ GE208.out) | exact HB.out)) hb)
  clear HO211
  clear BK208
  clear HB
  have HO211 := n0_
  have BK208 := n1_
  have HB := n2_
  clear n0_ n1_ n2_
  (try clear hb)
  (try clear hb2)
  (try clear hk)
  (try clear hi)
  refine hK.out _ _ ⟨(bc BK208.out 0).trans rfl, (bc BK208.out 1).trans rfl, (bc BK208.out 2).trans rfl⟩ (fun hHeld => ?_)
  clear hK K
  refine norm_ (a' := ?_) ?_ ?_
  rotate_left
  · show Act.put _ (some 26) _ = _
    simp only [Act.put, List.setIfInBounds_toArray, List.set_cons_zero, List.set_cons_succ, i64_w, i32_w]
    rfl
  refine one_ (i := 9) (N := some 31) #[true, true, true, true, true, true, true, true, true, true, true, true, true, true, false, true, true, true, true, false, false, false] rfl rfl (one_of HT_.out (by kernel_rfl)) (by decide) (fun K hK => ?_)
  refine goes_ Try.func164 (by kernel_rfl) rfl #[.agg #[.int .i64 a0_0, .int .i64 a0_1, .string a0_2], .int .i64 (wrap64 (t213 - 1)), .int .i64 t214] (by rfl) rfl rfl (by (try simp only [List.map_toArray, List.map_cons, List.map_nil]); first | done | rfl | (simp only [List.length_drop, List.length_take]; rfl)) ?_
  with_reducible refine (spec_CellAt.calls k a0_0 a0_1 a0_2 (wrap64 (t213 - 1)) t214 t216 _ A7.out).mono ?_
  rintro e w19 ⟨rfl, hb⟩
  refine ⟨_, rfl, ?_⟩
  have n0_ := Aside0.mk (Kd.Rb (by (with_reducible repeat (first | apply Kd.Ra | apply Kd.Rn | apply Kd.Rd)); exact HO211.out) hb)
  have n1_ := Aside0.mk (bb (g := gb208) (by first | (with_reducible exact BK208.out) | (with_reducible exact bN BK208.out _) | (with_reducible exact bd BK208.out) | ((with_reducible repeat first | apply bN | apply bd | apply ba); exact BK208.out)) hb)
  have n2_ := Aside0.mk (below_step (by repeat (first | (with_reducible first | exact HB.out | apply wa | apply wN | apply wd | refine ws ?_ GE208.out) | exact HB.out)) hb)
  clear HO211
  clear BK208
  clear HB
  have HO211 := n0_
  have BK208 := n1_
  have HB := n2_
  clear n0_ n1_ n2_
  (try clear hb)
  (try clear hb2)
  (try clear hk)
  (try clear hi)
  refine hK.out _ _ ⟨(bc BK208.out 0).trans rfl, (bc BK208.out 1).trans rfl, (bc BK208.out 2).trans rfl⟩ (fun hHeld => ?_)
  clear hK K
  refine norm_ (a' := ?_) ?_ ?_
  rotate_left
  · show Act.put _ (some 31) _ = _
    simp only [Act.put, List.setIfInBounds_toArray, List.set_cons_zero, List.set_cons_succ, i64_w, i32_w]
    rfl
  refine one_ (i := 14) (N := some 36) #[true, true, true, true, true, true, true, true, true, true, true, true, true, true, true, true, true, true, true, false, false, false] rfl rfl (one_of HT_.out (by kernel_rfl)) (by decide) (fun K hK => ?_)
  refine goes_ Try.func164 (by kernel_rfl) rfl #[.agg #[.int .i64 a0_0, .int .i64 a0_1, .string a0_2], .int .i64 (wrap64 (t213 + 1)), .int .i64 t214] (by rfl) rfl rfl (by (try simp only [List.map_toArray, List.map_cons, List.map_nil]); first | done | rfl | (simp only [List.length_drop, List.length_take]; rfl)) ?_
  with_reducible refine (spec_CellAt.calls k a0_0 a0_1 a0_2 (wrap64 (t213 + 1)) t214 t217 _ A8.out).mono ?_
  rintro e w20 ⟨rfl, hb⟩
  refine ⟨_, rfl, ?_⟩
  have n0_ := Aside0.mk (Kd.Rb (by (with_reducible repeat (first | apply Kd.Ra | apply Kd.Rn | apply Kd.Rd)); exact HO211.out) hb)
  have n1_ := Aside0.mk (bb (g := gb208) (by first | (with_reducible exact BK208.out) | (with_reducible exact bN BK208.out _) | (with_reducible exact bd BK208.out) | ((with_reducible repeat first | apply bN | apply bd | apply ba); exact BK208.out)) hb)
  have n2_ := Aside0.mk (below_step (by repeat (first | (with_reducible first | exact HB.out | apply wa | apply wN | apply wd | refine ws ?_ GE208.out) | exact HB.out)) hb)
  clear HO211
  clear BK208
  clear HB
  have HO211 := n0_
  have BK208 := n1_
  have HB := n2_
  clear n0_ n1_ n2_
  (try clear hb)
  (try clear hb2)
  (try clear hk)
  (try clear hi)
  refine hK.out _ _ ⟨(bc BK208.out 0).trans rfl, (bc BK208.out 1).trans rfl, (bc BK208.out 2).trans rfl⟩ (fun hHeld => ?_)
  clear hK K
  refine norm_ (a' := ?_) ?_ ?_
  rotate_left
  · show Act.put _ (some 36) _ = _
    simp only [Act.put, List.setIfInBounds_toArray, List.set_cons_zero, List.set_cons_succ, i64_w, i32_w]
    rfl
  refine one_ (i := 19) (N := some 41) #[true, true, true, true, true, true, true, true, true, true, true, true, true, true, true, true, true, true, true, true, false, false] rfl rfl (one_of HT_.out (by kernel_rfl)) (by decide) (fun K hK => ?_)
  refine goes_ Try.func164 (by kernel_rfl) rfl #[.agg #[.int .i64 a0_0, .int .i64 a0_1, .string a0_2], .int .i64 t213, .int .i64 (wrap64 (t214 + 1))] (by rfl) rfl rfl (by (try simp only [List.map_toArray, List.map_cons, List.map_nil]); first | done | rfl | (simp only [List.length_drop, List.length_take]; rfl)) ?_
  with_reducible refine (spec_CellAt.calls k a0_0 a0_1 a0_2 t213 (wrap64 (t214 + 1)) t218 _ A9.out).mono ?_
  rintro e w21 ⟨rfl, hb⟩
  refine ⟨_, rfl, ?_⟩
  have n0_ := Aside0.mk (Kd.Rb (by (with_reducible repeat (first | apply Kd.Ra | apply Kd.Rn | apply Kd.Rd)); exact HO211.out) hb)
  have n1_ := Aside0.mk (bb (g := gb208) (by first | (with_reducible exact BK208.out) | (with_reducible exact bN BK208.out _) | (with_reducible exact bd BK208.out) | ((with_reducible repeat first | apply bN | apply bd | apply ba); exact BK208.out)) hb)
  have n2_ := Aside0.mk (below_step (by repeat (first | (with_reducible first | exact HB.out | apply wa | apply wN | apply wd | refine ws ?_ GE208.out) | exact HB.out)) hb)
  clear HO211
  clear BK208
  clear HB
  have HO211 := n0_
  have BK208 := n1_
  have HB := n2_
  clear n0_ n1_ n2_
  (try clear hb)
  (try clear hb2)
  (try clear hk)
  (try clear hi)
  refine hK.out _ _ ⟨(bc BK208.out 0).trans rfl, (bc BK208.out 1).trans rfl, (bc BK208.out 2).trans rfl⟩ (fun hHeld => ?_)
  clear hK K
  refine norm_ (a' := ?_) ?_ ?_
  rotate_left
  · show Act.put _ (some 41) _ = _
    simp only [Act.put, List.setIfInBounds_toArray, List.set_cons_zero, List.set_cons_succ, i64_w, i32_w]
    rfl
  refine one_ (i := 20) (N := some 42) #[true, true, true, true, true, true, true, true, true, true, true, true, true, true, true, true, true, true, true, true, true, false] rfl rfl (one_of HT_.out (by kernel_rfl)) (by decide) (fun K hK => ?_)
  refine Kd.R_lit_step (Kd.int .i64) _ 3 ?hg (N := 42) ?hd (xs := ([t215, t216, t217, t218] : List Int)) (inner := [.int .i64 t215, .int .i64 t216, .int .i64 t217, .int .i64 t218]) (ok := fun _ => True) (okp := fun _ => True) ?hr ?hp (fun _ hk => hk) trivial (Below.refl _ _) (Nat.le_refl _) (by simp) ?_; (case hd => rfl); (case hg => rfl); (case hr => first | (go_simp; done) | (go_simp; rfl)); (case hp => exact (Reps.one (show Kd.M (Kd.int .i64) _ _ _ t215 [.int .i64 t215] from rfl) (Reps.one (show Kd.M (Kd.int .i64) _ _ _ t216 [.int .i64 t216] from rfl) (Reps.one (show Kd.M (Kd.int .i64) _ _ _ t217 [.int .i64 t217] from rfl) (Reps.one (show Kd.M (Kd.int .i64) _ _ _ t218 [.int .i64 t218] from rfl) (Reps.none _ _))))))
  intro v220 w22 ho23 hb hg_ hnew_
  clear hg_ hnew_
  (first | rw [← Ny219.out] at ho23 | (simp only [Int.reduceToNat] at ho23; rw [← Ny219.out] at ho23))
  have n0_ := Aside0.mk (Kd.R_elder' (by (with_reducible repeat (first | apply Kd.Ra | apply Kd.Rn | apply Kd.Rd)); exact HO211.out) (Kd.R_base ho23) hb)
  have n1_ := Aside0.mk (Kd.R_lower (Kd.R_new' ho23 (Kd.R_lt (by (with_reducible repeat (first | apply Kd.Ra | apply Kd.Rn | apply Kd.Rd)); exact HO211.out))) (below_size (by repeat (first | (with_reducible first | exact HB.out | apply wa | apply wN | apply wd | refine ws ?_ GE208.out) | exact HB.out))))
  have n2_ := Aside0.mk (bb (g := gb208) (by first | (with_reducible exact BK208.out) | (with_reducible exact bN BK208.out _) | (with_reducible exact bd BK208.out) | ((with_reducible repeat first | apply bN | apply bd | apply ba); exact BK208.out)) hb)
  have n3_ := Aside0.mk (below_step (by repeat (first | (with_reducible first | exact HB.out | apply wa | apply wN | apply wd | refine ws ?_ GE208.out) | exact HB.out)) hb)
  clear HO211
  clear BK208
  clear HB
  have HO211 := n0_
  have HO221 := n1_
  have BK208 := n2_
  have HB := n3_
  clear n0_ n1_ n2_ n3_
  clear hb ho23
  refine hK.out _ _ ⟨(bc BK208.out 0).trans rfl, (bc BK208.out 1).trans rfl, (bc BK208.out 2).trans rfl⟩ (fun hHeld => ?_)
  clear hK K
  refine norm_ (a' := ?_) ?_ ?_
  rotate_left
  · show Act.put _ (some 42) _ = _
    simp only [Act.put, List.setIfInBounds_toArray, List.set_cons_zero, List.set_cons_succ, i64_w, i32_w]
    rfl
  refine pure_ (i := 21) (N := some 8) (v := ?_) (a' := ?_) #[true, true, true, true, true, true, true, true, true, true, true, true, true, true, true, true, true, true, true, true, true, true] rfl rfl (any_of HT_.out (by kernel_rfl)) (fun _ _ _ h => h) (Or.inl ⟨by rfl, ?_⟩) ?_ ?_
  rotate_left
  · intro w'
    go_simp
    with_reducible rfl
  rotate_left
  · simp only [Act.put, List.setIfInBounds_toArray, List.set_cons_zero, List.set_cons_succ, i64_w, i32_w]
    rfl
  refine done_ (done_of HT_.out (by kernel_rfl)) ?_
  try go_wp2
  go_loopg [5, 9] k (fun kq v5 v9 w' => ∃ (x5_1 : List Int) (x9_1 : Int), v9 = .int .i64 x9_1 ∧ Aside0 (spec_Around.l0 kq x5_1 y219 x9_1 a0_0 a0_1 a0_2 = some r) ∧ Aside0 (kq ≤ k) ∧ Aside0 (Kd.R (Kd.int .i64) 3 w' w.heap.size (fun k_ => some k_ ≠ (v220 : Value).ownBlock) v5 x5_1) ∧ Aside0 (Kd.R (Kd.int .i64) 3 w' w.heap.size (fun k_ => some k_ ≠ (v5 : Value).ownBlock) v220 y219) ∧ Aside0 (w'.heap[gb208]? = some (.cells #[.int .i64 a0_0, .int .i64 a0_1, .string a0_2] 27 (0, 0))) ∧ Aside0 (Below w.heap.size w w'))
  case atStart => exact ⟨(y209), (0), (by first | rfl | (simp; done) | (simp [*]; done)), H', ⟨Nat.le_refl _⟩, ⟨by (with_reducible repeat (first | apply Kd.Ra | apply Kd.Rn | apply Kd.Rd)); exact Kd.R_mono HO211.out (fun _ hk => hk.2)⟩, ⟨by (with_reducible repeat (first | apply Kd.Ra | apply Kd.Rn | apply Kd.Rd)); exact Kd.R_mono HO221.out (fun _ hk => hk.2)⟩, ⟨by (with_reducible repeat first | apply bN | apply bd | apply ba); exact BK208.out⟩, ⟨by repeat (first | (with_reducible first | exact HB.out | apply wa | apply wN | apply wd | refine ws ?_ GE208.out) | exact HB.out)⟩⟩
  case round =>
    clear H'
    try clear c1
    try clear p2
    try clear c4
    try clear p6
    try clear c7
    try clear c13
    try clear c16
    try clear hcz13_0
    try clear hcz13_1
    try clear hcz13_2
    try clear hcz15_0
    try clear hcz15_1
    try clear hcz15_2
    obtain ⟨x5_1, x9_1, rfl, HA, HK1, HO_5, HO_8, BK208, HB⟩ := hrel
    cases gk with
    | zero => exact absurd HA.out (by simp [spec_Around.l0])
    | succ k1 =>
      have H := HA.out
      clear HA
      simp only [spec_Around.l0] at H
      by_cases c24 : x9_1 < 4
      rotate_left
      · rw [if_neg c24] at H
        have c24b0 : decide (x9_1 < 4) = false := decide_eq_false c24
        clear c24
        obtain rfl := Option.some.inj H
        go_wp2
        go_ret
        exact ⟨_, by first | rfl | (simp [errW_none, errW_some] <;> rfl) | (simp [*, errW_none, errW_some] <;> rfl), by (with_reducible repeat (first | apply Kd.Ra | apply Kd.Rn | apply Kd.Rd)); exact Kd.R_mono HO_5.out (fun _ hk => trivial), by repeat (first | (with_reducible first | exact HB.out | apply wa | apply wN | apply wd | refine ws ?_ GE208.out) | exact HB.out)⟩
      rw [if_pos c24] at H
      have c24b0 : decide (x9_1 < 4) = true := decide_eq_true c24
      clear c24
      by_cases c25 : 0 ≤ x9_1
      rotate_left
      · rw [if_neg c25] at H
        exact absurd H (by simp)
      rw [if_pos c25] at H
      have c25b0 : decide (0 ≤ x9_1) = true := decide_eq_true c25
      clear c25
      by_cases c26 : x9_1 < (y219.length : Int)
      rotate_left
      · rw [if_neg c26] at H
        exact absurd H (by simp)
      rw [if_pos c26] at H
      have c26b0 : decide (x9_1 < (y219.length : Int)) = true := decide_eq_true c26
      clear c26
      replace H := Option.bind_eq_some_iff.mp H
      obtain ⟨t223, A270, H⟩ := H
      replace H : (if t223 = true then (if x5_1.length < 17592186044416 then (spec_Around.l0 k1 (x5_1 ++ [rd y219 x9_1]) y219 (wrap64 (x9_1 + 1)) a0_0 a0_1 a0_2) else (none)) else (spec_Around.l0 k1 x5_1 y219 (wrap64 (x9_1 + 1)) a0_0 a0_1 a0_2)) = some r := H
      have A27 := Aside0.mk A270
      clear A270
      by_cases c28 : t223 = true
      rotate_left
      · replace c28 := Bool.eq_false_iff.mpr c28
        subst c28
        have H1 : (spec_Around.l0 k1 x5_1 y219 (wrap64 (x9_1 + 1)) a0_0 a0_1 a0_2) = some r := by rw [if_neg (show ¬ (false = true) by decide)] at H; exact H
        clear H
        have H := H1
        clear H1
        have H' := Aside0.mk H
        clear H
        try go_wp2
        have n0_ := Aside0.mk (Kd.Rd HO_5.out)
        have n1_ := Aside0.mk (Kd.Rd HO_8.out)
        have n2_ := Aside0.mk (bd BK208.out)
        have n3_ := Aside0.mk (wd HB.out)
        clear HO_5
        clear HO_8
        clear BK208
        clear HB
        have HO_5 := n0_
        have HO_8 := n1_
        have BK208 := n2_
        have HB := n3_
        clear n0_ n1_ n2_ n3_
        obtain ⟨Ao35, co35, eo35⟩ := Kd.R_slice HO_8.out
        (first | subst eo35 | (injection eo35 with f1_ f2_ f3_; have f4_ := f1_.symm; have f5_ := f3_.symm; clear f1_ f2_ f3_; subst f4_; subst f5_))
        have p222 : 0 ≤ (x9_1 : Int) := of_decide_eq_true (by first | (with_reducible assumption) | assumption)
        have q222 : x9_1 < (y219.length : Int) := of_decide_eq_true (by first | (with_reducible assumption) | assumption)
        obtain ⟨ad222, e222, hx222_0⟩ := Kd.at_int (Kd.R_reads' HO_8.out).2.2 x9_1 p222 q222
        cases e222
        replace p222 := eq_true p222
        replace q222 := eq_true q222
        refine start_ (n := 6) (S := fun w' => w'.cell? ⟨gb208, 0, none⟩ = some (.int .i64 a0_0) ∧ w'.cell? ⟨gb208, 1, none⟩ = some (.int .i64 a0_1) ∧ w'.cell? ⟨gb208, 2, none⟩ = some (.string a0_2) ∧ w'.cell? (ad222.add (x9_1).toNat) = some (.int .i64 (rd y219 x9_1))) (ds := []) #[false, false, false, false, false, false] (by kernel_rfl) rfl rfl ⟨(bc BK208.out 0).trans rfl, (bc BK208.out 1).trans rfl, (bc BK208.out 2).trans rfl, hx222_0⟩ (fun hHeld => ?_)
        generalize wr.drew = w34 at HO_5 HO_8 BK208 HB hx222_0 hHeld ⊢
        refine pure_ (i := 1) (N := some 48) (v := ?_) (a' := ?_) #[false, true, false, false, false, false] rfl rfl (by kernel_rfl) (fun _ _ _ h => h) (Or.inl ⟨by rfl, ?_⟩) ?_ ?_
        rotate_left
        · intro w'
          go_simp
          with_reducible rfl
        rotate_left
        · simp only [Act.put, List.setIfInBounds_toArray, List.set_cons_zero, List.set_cons_succ, i64_w, i32_w]
          rfl
        refine pure_ (i := 2) (N := some 49) (v := ?_) (a' := ?_) #[false, true, true, false, false, false] rfl rfl (by kernel_rfl) (fun _ _ _ h => h) (Or.inl ⟨by rfl, ?_⟩) ?_ ?_
        rotate_left
        · intro w'
          go_simp
          with_reducible rfl
        rotate_left
        · simp only [Act.put, List.setIfInBounds_toArray, List.set_cons_zero, List.set_cons_succ, i64_w, i32_w]
          rfl
        refine pure_ (i := 3) (N := some 50) (v := ?_) (a' := ?_) #[false, true, true, true, false, false] rfl rfl (by kernel_rfl) (fun _ _ _ h => h) (Or.inl ⟨by rfl, ?_⟩) ?_ ?_
        rotate_left
        · intro w'
          go_simp
          with_reducible rfl
        rotate_left
        · simp only [Act.put, List.setIfInBounds_toArray, List.set_cons_zero, List.set_cons_succ, i64_w, i32_w]
          rfl
        refine take_ (i := 0) (N := some 47) (v := ?_) (a' := ?_) #[true, true, true, true, false, false] rfl rfl (by kernel_rfl) (fun _ _ _ h => h) (Or.inl ⟨by rfl, ?_⟩) hHeld ?_ ?_
        rotate_left
        · rintro w' ⟨s0, s1, s2, s3⟩
          go_simp
          with_reducible rfl
        rotate_left
        · simp only [Act.put, List.setIfInBounds_toArray, List.set_cons_zero, List.set_cons_succ, i64_w, i32_w]
          rfl
        refine take_ (i := 4) (N := some 51) (v := ?_) (a' := ?_) #[true, true, true, true, true, false] rfl rfl (by kernel_rfl) (fun _ _ _ h => h) (Or.inl ⟨by rfl, ?_⟩) hHeld ?_ ?_
        rotate_left
        · rintro w' ⟨s0, s1, s2, s3⟩
          go_simp
          with_reducible rfl
        rotate_left
        · simp only [Act.put, List.setIfInBounds_toArray, List.set_cons_zero, List.set_cons_succ, i64_w, i32_w]
          rfl
        refine one_ (i := 5) (N := some 52) #[true, true, true, true, true, true] rfl rfl (by kernel_rfl) (by decide) (fun K hK => ?_)
        refine goes_ Try.func78 (by kernel_rfl) rfl #[.agg #[.int .i64 a0_0, .int .i64 a0_1, .string a0_2], .int .i64 (rd y219 x9_1)] (by rfl) rfl rfl (by (try simp only [List.map_toArray, List.map_cons, List.map_nil]); first | done | rfl | (simp only [List.length_drop, List.length_take]; rfl)) ?_
        with_reducible refine (spec_FreeAt.calls k1 a0_0 a0_1 a0_2 (rd y219 x9_1) false _ A27.out).mono ?_
        rintro e w36 ⟨rfl, hb⟩
        have HS3_ := (hb.cell (World.block_lt_of_cell? _ _ (hHeld.2.2.2))).trans (hHeld.2.2.2)
        refine ⟨_, rfl, ?_⟩
        have n0_ := Aside0.mk (Kd.Rb (by (with_reducible repeat (first | apply Kd.Ra | apply Kd.Rn | apply Kd.Rd)); exact HO_5.out) hb)
        have n1_ := Aside0.mk (Kd.Rb (by (with_reducible repeat (first | apply Kd.Ra | apply Kd.Rn | apply Kd.Rd)); exact HO_8.out) hb)
        have n2_ := Aside0.mk (bb (g := gb208) (by first | (with_reducible exact BK208.out) | (with_reducible exact bN BK208.out _) | (with_reducible exact bd BK208.out) | ((with_reducible repeat first | apply bN | apply bd | apply ba); exact BK208.out)) hb)
        have n3_ := Aside0.mk (below_step (by repeat (first | (with_reducible first | exact HB.out | apply wa | apply wN | apply wd | refine ws ?_ GE208.out) | exact HB.out)) hb)
        clear HO_5
        clear HO_8
        clear BK208
        clear HB
        have HO_5 := n0_
        have HO_8 := n1_
        have BK208 := n2_
        have HB := n3_
        clear n0_ n1_ n2_ n3_
        (try clear hb)
        (try clear hb2)
        (try clear hk)
        (try clear hi)
        refine hK.out _ _ ⟨(bc BK208.out 0).trans rfl, (bc BK208.out 1).trans rfl, (bc BK208.out 2).trans rfl, HS3_⟩ (fun hHeld => ?_)
        clear hK K
        refine norm_ (a' := ?_) ?_ ?_
        rotate_left
        · show Act.put _ (some 52) _ = _
          simp only [Act.put, List.setIfInBounds_toArray, List.set_cons_zero, List.set_cons_succ, i64_w, i32_w]
          rfl
        refine done_ (by kernel_rfl) ?_
        try go_wp2
        go_roundg k1
        case measure => have := HK1.out; omega
        case rel => exact ⟨(x5_1), (wrap64 (x9_1 + 1)), (by first | rfl | (simp; done) | (simp [*]; done)), H', ⟨by have := HK1.out; omega⟩, ⟨by (with_reducible repeat (first | apply Kd.Ra | apply Kd.Rn | apply Kd.Rd)); exact HO_5.out⟩, ⟨by (with_reducible repeat (first | apply Kd.Ra | apply Kd.Rn | apply Kd.Rd)); exact HO_8.out⟩, ⟨by (with_reducible repeat first | apply bN | apply bd | apply ba); exact BK208.out⟩, ⟨by repeat (first | (with_reducible first | exact HB.out | apply wa | apply wN | apply wd | refine ws ?_ GE208.out) | exact HB.out)⟩⟩
      subst c28
      have H1 : (if x5_1.length < 17592186044416 then (spec_Around.l0 k1 (x5_1 ++ [rd y219 x9_1]) y219 (wrap64 (x9_1 + 1)) a0_0 a0_1 a0_2) else (none)) = some r := by rw [if_pos rfl] at H; exact H
      clear H
      have H := H1
      clear H1
      by_cases c29 : x5_1.length < 17592186044416
      rotate_left
      · rw [if_neg c29] at H
        exact absurd H (by simp)
      rw [if_pos c29] at H
      have LMc29 := Aside0.mk c29
      clear c29
      obtain ⟨y225, hy225⟩ : ∃ y_ : List Int, y_ = (x5_1 ++ [rd y219 x9_1]) := ⟨_, rfl⟩
      replace H : (spec_Around.l0 k1 y225 y219 (wrap64 (x9_1 + 1)) a0_0 a0_1 a0_2) = some r := by first | (rw [hy225]; with_reducible exact H) | (have H2_ := (Option.bind_some _ _).symm.trans H; rw [hy225]; with_reducible exact H2_) | (have H2_ := (Option.bind_some _ _).symm.trans H; with_reducible exact H2_) | with_reducible exact H | (rw [hy225]; exact H) | exact H
      have Ny225 := Aside0.mk hy225
      clear hy225
      have H' := Aside0.mk H
      clear H
      try go_wp2
      have n0_ := Aside0.mk (Kd.Rd HO_5.out)
      have n1_ := Aside0.mk (Kd.Rd HO_8.out)
      have n2_ := Aside0.mk (bd BK208.out)
      have n3_ := Aside0.mk (wd HB.out)
      clear HO_5
      clear HO_8
      clear BK208
      clear HB
      have HO_5 := n0_
      have HO_8 := n1_
      have BK208 := n2_
      have HB := n3_
      clear n0_ n1_ n2_ n3_
      obtain ⟨Ao31, co31, eo31⟩ := Kd.R_slice HO_8.out
      (first | subst eo31 | (injection eo31 with f1_ f2_ f3_; have f4_ := f1_.symm; have f5_ := f3_.symm; clear f1_ f2_ f3_; subst f4_; subst f5_))
      have p222 : 0 ≤ (x9_1 : Int) := of_decide_eq_true (by first | (with_reducible assumption) | assumption)
      have q222 : x9_1 < (y219.length : Int) := of_decide_eq_true (by first | (with_reducible assumption) | assumption)
      obtain ⟨ad222, e222, hx222_0⟩ := Kd.at_int (Kd.R_reads' HO_8.out).2.2 x9_1 p222 q222
      cases e222
      replace p222 := eq_true p222
      replace q222 := eq_true q222
      refine start_ (n := 6) (S := fun w' => w'.cell? ⟨gb208, 0, none⟩ = some (.int .i64 a0_0) ∧ w'.cell? ⟨gb208, 1, none⟩ = some (.int .i64 a0_1) ∧ w'.cell? ⟨gb208, 2, none⟩ = some (.string a0_2) ∧ w'.cell? (ad222.add (x9_1).toNat) = some (.int .i64 (rd y219 x9_1))) (ds := []) #[false, false, false, false, false, false] (by kernel_rfl) rfl rfl ⟨(bc BK208.out 0).trans rfl, (bc BK208.out 1).trans rfl, (bc BK208.out 2).trans rfl, hx222_0⟩ (fun hHeld => ?_)
      generalize wr.drew = w30 at HO_5 HO_8 BK208 HB hx222_0 hHeld ⊢
      refine pure_ (i := 1) (N := some 48) (v := ?_) (a' := ?_) #[false, true, false, false, false, false] rfl rfl (by kernel_rfl) (fun _ _ _ h => h) (Or.inl ⟨by rfl, ?_⟩) ?_ ?_
      rotate_left
      · intro w'
        go_simp
        with_reducible rfl
      rotate_left
      · simp only [Act.put, List.setIfInBounds_toArray, List.set_cons_zero, List.set_cons_succ, i64_w, i32_w]
        rfl
      refine pure_ (i := 2) (N := some 49) (v := ?_) (a' := ?_) #[false, true, true, false, false, false] rfl rfl (by kernel_rfl) (fun _ _ _ h => h) (Or.inl ⟨by rfl, ?_⟩) ?_ ?_
      rotate_left
      · intro w'
        go_simp
        with_reducible rfl
      rotate_left
      · simp only [Act.put, List.setIfInBounds_toArray, List.set_cons_zero, List.set_cons_succ, i64_w, i32_w]
        rfl
      refine pure_ (i := 3) (N := some 50) (v := ?_) (a' := ?_) #[false, true, true, true, false, false] rfl rfl (by kernel_rfl) (fun _ _ _ h => h) (Or.inl ⟨by rfl, ?_⟩) ?_ ?_
      rotate_left
      · intro w'
        go_simp
        with_reducible rfl
      rotate_left
      · simp only [Act.put, List.setIfInBounds_toArray, List.set_cons_zero, List.set_cons_succ, i64_w, i32_w]
        rfl
      refine take_ (i := 0) (N := some 47) (v := ?_) (a' := ?_) #[true, true, true, true, false, false] rfl rfl (by kernel_rfl) (fun _ _ _ h => h) (Or.inl ⟨by rfl, ?_⟩) hHeld ?_ ?_
      rotate_left
      · rintro w' ⟨s0, s1, s2, s3⟩
        go_simp
        with_reducible rfl
      rotate_left
      · simp only [Act.put, List.setIfInBounds_toArray, List.set_cons_zero, List.set_cons_succ, i64_w, i32_w]
        rfl
      refine take_ (i := 4) (N := some 51) (v := ?_) (a' := ?_) #[true, true, true, true, true, false] rfl rfl (by kernel_rfl) (fun _ _ _ h => h) (Or.inl ⟨by rfl, ?_⟩) hHeld ?_ ?_
      rotate_left
      · rintro w' ⟨s0, s1, s2, s3⟩
        go_simp
        with_reducible rfl
      rotate_left
      · simp only [Act.put, List.setIfInBounds_toArray, List.set_cons_zero, List.set_cons_succ, i64_w, i32_w]
        rfl
      refine one_ (i := 5) (N := some 52) #[true, true, true, true, true, true] rfl rfl (by kernel_rfl) (by decide) (fun K hK => ?_)
      refine goes_ Try.func78 (by kernel_rfl) rfl #[.agg #[.int .i64 a0_0, .int .i64 a0_1, .string a0_2], .int .i64 (rd y219 x9_1)] (by rfl) rfl rfl (by (try simp only [List.map_toArray, List.map_cons, List.map_nil]); first | done | rfl | (simp only [List.length_drop, List.length_take]; rfl)) ?_
      with_reducible refine (spec_FreeAt.calls k1 a0_0 a0_1 a0_2 (rd y219 x9_1) true _ A27.out).mono ?_
      rintro e w32 ⟨rfl, hb⟩
      have HS3_ := (hb.cell (World.block_lt_of_cell? _ _ (hHeld.2.2.2))).trans (hHeld.2.2.2)
      refine ⟨_, rfl, ?_⟩
      have n0_ := Aside0.mk (Kd.Rb (by (with_reducible repeat (first | apply Kd.Ra | apply Kd.Rn | apply Kd.Rd)); exact HO_5.out) hb)
      have n1_ := Aside0.mk (Kd.Rb (by (with_reducible repeat (first | apply Kd.Ra | apply Kd.Rn | apply Kd.Rd)); exact HO_8.out) hb)
      have n2_ := Aside0.mk (bb (g := gb208) (by first | (with_reducible exact BK208.out) | (with_reducible exact bN BK208.out _) | (with_reducible exact bd BK208.out) | ((with_reducible repeat first | apply bN | apply bd | apply ba); exact BK208.out)) hb)
      have n3_ := Aside0.mk (below_step (by repeat (first | (with_reducible first | exact HB.out | apply wa | apply wN | apply wd | refine ws ?_ GE208.out) | exact HB.out)) hb)
      clear HO_5
      clear HO_8
      clear BK208
      clear HB
      have HO_5 := n0_
      have HO_8 := n1_
      have BK208 := n2_
      have HB := n3_
      clear n0_ n1_ n2_ n3_
      (try clear hb)
      (try clear hb2)
      (try clear hk)
      (try clear hi)
      refine hK.out _ _ ⟨(bc BK208.out 0).trans rfl, (bc BK208.out 1).trans rfl, (bc BK208.out 2).trans rfl, HS3_⟩ (fun hHeld => ?_)
      clear hK K
      refine norm_ (a' := ?_) ?_ ?_
      rotate_left
      · show Act.put _ (some 52) _ = _
        simp only [Act.put, List.setIfInBounds_toArray, List.set_cons_zero, List.set_cons_succ, i64_w, i32_w]
        rfl
      refine done_ (by kernel_rfl) ?_
      have p224 : 0 ≤ (x9_1 : Int) := of_decide_eq_true (by first | (with_reducible assumption) | assumption)
      have q224 : x9_1 < (y219.length : Int) := of_decide_eq_true (by first | (with_reducible assumption) | assumption)
      obtain ⟨ad224, e224, hx224_0⟩ := Kd.at_int (Kd.R_reads' HO_8.out).2.2 x9_1 p224 q224
      obtain rfl : ad222 = ad224 := (by injection e224)
      replace p224 := eq_true p224
      replace q224 := eq_true q224
      try go_wp2_with (first | ((with_reducible refine gate_builtin (b := .append) (xs := #[.tmp 53, .tmp 58]) rfl ?_); at_builtin; refine Kd.R_append (Kd.int .i64) (w0 := w) w.heap.size rfl (.tmp 53) (.tmp 58) 31 3 (.int .i64 0) 8 rfl Try.underlying31 info3 rfl (by decide) (by omega) u5 x5_1 (rd y219 x9_1) [.int .i64 (rd y219 x9_1)] (fun k_ => some k_ ≠ (.slice (some ad222) y219.length co31 : Value).ownBlock) (fun _ => False) rfl rfl ?aP (fun _ hk => hk.elim) ?aF ?aO ?aB ?aS ?aL ?_; (case aP => exact rfl); (case aB => exact (by repeat (first | (with_reducible first | exact HB.out | apply wa | apply wN | apply wd | refine ws ?_ GE208.out) | exact HB.out))); (case aF => exact (fun k_ hk => Kd.fresh' (Kd.R_lt (by (with_reducible repeat (first | apply Kd.Ra | apply Kd.Rn | apply Kd.Rd)); exact HO_8.out)) k_ hk)); (case aO => exact (by (with_reducible repeat (first | apply Kd.Ra | apply Kd.Rn | apply Kd.Rd)); exact HO_5.out)); (case aS => exact (below_size (by repeat (first | (with_reducible first | exact HB.out | apply wa | apply wN | apply wd | refine ws ?_ GE208.out) | exact HB.out)))); (case aL => have := LMc29.out; omega); intro v226 w33 ho hb hg hat; rw [← Ny225.out] at ho; have n0_ := Aside0.mk (Kd.R_after (ok := (fun _ => True)) (by (with_reducible repeat (first | apply Kd.Ra | apply Kd.Rn | apply Kd.Rd)); exact Kd.R_mono HO_8.out (fun _ hk => ⟨trivial, hk⟩)) hg hat); have n1_ := Aside0.mk (blk_grown (g := gb208) (by (with_reducible repeat first | apply bN | apply bd | apply ba); exact BK208.out) hg (Kd.R_ne HO_5.out BK208.out (by decide))); have n2_ := Aside0.mk (hb); have n3_ := Aside0.mk (ho); clear HO_8; clear BK208; clear HB; clear HO_5; have HO_8 := n0_; have BK208 := n1_; have HB := n2_; have HO227 := n3_; clear n0_ n1_ n2_ n3_; clear ho hb hg hat))
      go_roundg k1
      case measure => have := HK1.out; omega
      case rel => exact ⟨(y225), (wrap64 (x9_1 + 1)), (by first | rfl | (simp; done) | (simp [*]; done)), H', ⟨by have := HK1.out; omega⟩, ⟨by (with_reducible repeat (first | apply Kd.Ra | apply Kd.Rn | apply Kd.Rd)); exact HO227.out⟩, ⟨by (with_reducible repeat (first | apply Kd.Ra | apply Kd.Rn | apply Kd.Rd)); exact Kd.R_mono HO_8.out (fun _ hk => hk.2)⟩, ⟨by (with_reducible repeat first | apply bN | apply bd | apply ba); exact BK208.out⟩, ⟨by repeat (first | (with_reducible first | exact HB.out | apply wa | apply wN | apply wd | refine ws ?_ GE208.out) | exact HB.out)⟩⟩

end Go.Proofs.Ytfinjkjnoobbjaa.MFnTeams
