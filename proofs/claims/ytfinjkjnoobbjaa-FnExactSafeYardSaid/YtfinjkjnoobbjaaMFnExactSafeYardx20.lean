/- Made by a program of this session (out of the kit's print, with hand-made contracts): what each Go function that the law reaches computes, and that the machine's call does so. -/
import Derived.Test.YtfinjkjnoobbjaaMFnExactSafeYardx0
import Derived.Test.YtfinjkjnoobbjaaMFnExactSafeYardx16
import Derived.Test.YtfinjkjnoobbjaaMFnExactSafeYardx17
import Derived.Test.YtfinjkjnoobbjaaMFnExactSafeYardx18
import Derived.Test.YtfinjkjnoobbjaaMFnExactSafeYardx19
namespace Go.Proofs.Ytfinjkjnoobbjaa.MFnExactSafeYard
open Go.RowKit Go.Proofs.YtfinjkjnoobbjaaW.PrintWords Go.Proofs.YtfinjkjnoobbjaaW.PrintLast Go.Proofs.YtfinjkjnoobbjaaW.PrintMore
attribute [local go_sem] max2_int min2_int max_two min_two max_three min_three max_four min_four   -- for this text's walks alone
set_option linter.unusedVariables false
set_option linter.unusedSimpArgs false

/-! ### impl_Around: function 123 -/
def impl_Around.f (k : Nat) (a0_0 : Int) (a0_1 : Int) (a0_2 : ByteArray) (a1 : Int) : Option (List Int) := (impl_GridOk.f k a0_0 a0_1 a0_2).bind fun t358 => (if t358 = true then ((impl_around.f k a0_0 a0_1 a0_2 a1).bind fun t359 => (some t359)) else (some ([] : List Int)))
theorem impl_Around.mono : ∀ a0 a1 a2 a3 k, LeO (impl_Around.f k a0 a1 a2 a3) (impl_Around.f (k + 1) a0 a1 a2 a3) := by
  intro a0 a1 a2 a3 k
  unfold impl_Around.f
  repeat' first
      | (with_reducible exact impl_GridOk.mono _ _ _ _)
      | (with_reducible exact impl_around.mono _ _ _ _ _)
      | (with_reducible exact LeO.refl _)
      | (with_reducible exact LeO.none _)
      | (with_reducible refine LeO.ite ?_ ?_)
      | (with_reducible refine LeO.bind ?_ (fun _ => ?_))
      | exact impl_GridOk.mono _ _ _ _
      | exact impl_around.mono _ _ _ _ _
      | exact LeO.none _
      | refine LeO.ite ?_ ?_
      | refine LeO.bind ?_ (fun _ => ?_)
set_option maxHeartbeats 8000000 in
set_option maxRecDepth 100000 in
theorem impl_Around.calls (k : Nat) (a0_0 : Int) (a0_1 : Int) (a0_2 : ByteArray) (a1 : Int) (r : List Int) (w : World) (h : impl_Around.f k a0_0 a0_1 a0_2 a1 = some r) :
    Calls Try.prog 123 #[.agg #[.int .i64 a0_0, .int .i64 a0_1, .string a0_2], .int .i64 a1] w fun e w' => ∃ v0_ : Value, e = .returned (v0_) ∧ Kd.R (Kd.int .i64) 3 w' w.heap.size (fun _ => True) v0_ r ∧ Below w.heap.size w w' := by
  have hu27 := Try.underlying27
  have HB := Aside0.mk (Below.refl w.heap.size w)
  have H : ((impl_GridOk.f k a0_0 a0_1 a0_2).bind fun t358 => (if t358 = true then ((impl_around.f k a0_0 a0_1 a0_2 a1).bind fun t359 => (some t359)) else (some ([] : List Int)))) = some r := h
  clear h
  replace H := Option.bind_eq_some_iff.mp H
  obtain ⟨t358, A30, H⟩ := H
  try dsimp only at H
  have A3 := Aside0.mk A30
  clear A30
  by_cases c4 : t358 = true
  rotate_left
  · replace c4 := Bool.eq_false_iff.mpr c4
    subst c4
    rw [if_neg (show ¬ (false = true) by decide)] at H
    obtain rfl := Option.some.inj H
    go_enter Try.func123, Try.ntmps123
    go_wp2_with (first | ((with_reducible refine gate_dst (N := 2) rfl ?_); refine box_event ?hg (N := 2) ?hd (cs := #[.int .i64 a0_0, .int .i64 a0_1, .string a0_2]) (t := 27) ?hr ?_; (case hd => rfl); (case hg => rfl); (case hr => first | (go_simp; done) | (go_simp; rfl)); intro gb357 hg w11 hbox hb; have n0_ := Aside0.mk (below_step (by repeat (first | (with_reducible first | exact HB.out | apply wa | apply wN | apply wd) | exact HB.out)) hb); have n1_ := Aside0.mk (hbox); have n2_ := Aside0.mk ((by rw [hg]; exact (below_size (by repeat (first | (with_reducible first | exact HB.out | apply wa | apply wN | apply wd) | exact HB.out))) : w.heap.size ≤ gb357)); have n3_ := n2_; clear HB; have HB := n0_; have BK357 := n1_; have GW357 := n2_; have GE357 := n3_; clear n0_ n1_ n2_ n3_; clear hb hbox hg; have hcz12_0 : w11.cell? ⟨gb357, 0, none⟩ = some (.int .i64 a0_0) := (bc BK357.out 0).trans rfl; have hcz12_1 : w11.cell? ⟨gb357, 1, none⟩ = some (.int .i64 a0_1) := (bc BK357.out 1).trans rfl; have hcz12_2 : w11.cell? ⟨gb357, 2, none⟩ = some (.string a0_2) := (bc BK357.out 2).trans rfl) | ((with_reducible refine gate_callee (f := 94) rfl ?_); refine goesL_ (some 6) rfl rfl Try.func94 (by kernel_rfl) rfl #[.agg #[.int .i64 a0_0, .int .i64 a0_1, .string a0_2]] rfl (by (try simp only [List.map_toArray, List.map_cons, List.map_nil]); first | done | rfl | (simp only [List.length_drop, List.length_take]; rfl)) ?_; (with_reducible refine (impl_GridOk.calls k a0_0 a0_1 a0_2 false _ A3.out).mono ?_); rintro e w13 ⟨rfl, hb⟩; refine ⟨_, rfl, ?_⟩; have n0_ := Aside0.mk (bb (g := gb357) (by first | (with_reducible exact BK357.out) | (with_reducible exact bN BK357.out _) | (with_reducible exact bd BK357.out) | ((with_reducible repeat first | apply bN | apply bd | apply ba); exact BK357.out)) hb); have n1_ := Aside0.mk (below_step (by repeat (first | (with_reducible first | exact HB.out | apply wa | apply wN | apply wd | refine ws ?_ GE357.out) | exact HB.out)) hb); clear BK357; clear HB; have BK357 := n0_; have HB := n1_; clear n0_ n1_; (try clear hb); (try clear hb2); (try clear hk); (try clear hi)))
    go_ret
    exact ⟨_, by first | rfl | (simp [errW_none, errW_some] <;> rfl) | (simp [*, errW_none, errW_some] <;> rfl), by first | exact Kd.R_nil _ _ _ _ _ | exact Kd.N_nil _ _ _ _ _ | exact Kd.V_nil _ _ _ _ _ | exact Kd.Q_nil _ _ _ _ _ | exact Kd.S_nil _ _ _ _ _, by repeat (first | (with_reducible first | exact HB.out | apply wa | apply wN | apply wd | refine ws ?_ GE357.out) | exact HB.out)⟩
  subst c4
  rw [if_pos rfl] at H
  replace H := Option.bind_eq_some_iff.mp H
  obtain ⟨t359, A50, H⟩ := H
  try dsimp only at H
  have A5 := Aside0.mk A50
  clear A50
  obtain rfl := Option.some.inj H
  go_enter Try.func123, Try.ntmps123
  go_wp2_with (first | ((with_reducible refine gate_dst (N := 2) rfl ?_); refine box_event ?hg (N := 2) ?hd (cs := #[.int .i64 a0_0, .int .i64 a0_1, .string a0_2]) (t := 27) ?hr ?_; (case hd => rfl); (case hg => rfl); (case hr => first | (go_simp; done) | (go_simp; rfl)); intro gb357 hg w6 hbox hb; have n0_ := Aside0.mk (below_step (by repeat (first | (with_reducible first | exact HB.out | apply wa | apply wN | apply wd) | exact HB.out)) hb); have n1_ := Aside0.mk (hbox); have n2_ := Aside0.mk ((by rw [hg]; exact (below_size (by repeat (first | (with_reducible first | exact HB.out | apply wa | apply wN | apply wd) | exact HB.out))) : w.heap.size ≤ gb357)); have n3_ := n2_; clear HB; have HB := n0_; have BK357 := n1_; have GW357 := n2_; have GE357 := n3_; clear n0_ n1_ n2_ n3_; clear hb hbox hg; have hcz7_0 : w6.cell? ⟨gb357, 0, none⟩ = some (.int .i64 a0_0) := (bc BK357.out 0).trans rfl; have hcz7_1 : w6.cell? ⟨gb357, 1, none⟩ = some (.int .i64 a0_1) := (bc BK357.out 1).trans rfl; have hcz7_2 : w6.cell? ⟨gb357, 2, none⟩ = some (.string a0_2) := (bc BK357.out 2).trans rfl) | ((with_reducible refine gate_callee (f := 94) rfl ?_); refine goesL_ (some 6) rfl rfl Try.func94 (by kernel_rfl) rfl #[.agg #[.int .i64 a0_0, .int .i64 a0_1, .string a0_2]] rfl (by (try simp only [List.map_toArray, List.map_cons, List.map_nil]); first | done | rfl | (simp only [List.length_drop, List.length_take]; rfl)) ?_; (with_reducible refine (impl_GridOk.calls k a0_0 a0_1 a0_2 true _ A3.out).mono ?_); rintro e w8 ⟨rfl, hb⟩; refine ⟨_, rfl, ?_⟩; have n0_ := Aside0.mk (bb (g := gb357) (by first | (with_reducible exact BK357.out) | (with_reducible exact bN BK357.out _) | (with_reducible exact bd BK357.out) | ((with_reducible repeat first | apply bN | apply bd | apply ba); exact BK357.out)) hb); have n1_ := Aside0.mk (below_step (by repeat (first | (with_reducible first | exact HB.out | apply wa | apply wN | apply wd | refine ws ?_ GE357.out) | exact HB.out)) hb); clear BK357; clear HB; have BK357 := n0_; have HB := n1_; clear n0_ n1_; (try clear hb); (try clear hb2); (try clear hk); (try clear hi); have hcz9_0 : w8.cell? ⟨gb357, 0, none⟩ = some (.int .i64 a0_0) := (bc BK357.out 0).trans rfl; have hcz9_1 : w8.cell? ⟨gb357, 1, none⟩ = some (.int .i64 a0_1) := (bc BK357.out 1).trans rfl; have hcz9_2 : w8.cell? ⟨gb357, 2, none⟩ = some (.string a0_2) := (bc BK357.out 2).trans rfl) | ((with_reducible refine gate_callee (f := 156) rfl ?_); refine goesL_ (some 10) rfl rfl Try.func156 (by kernel_rfl) rfl #[.agg #[.int .i64 a0_0, .int .i64 a0_1, .string a0_2], .int .i64 a1] rfl (by (try simp only [List.map_toArray, List.map_cons, List.map_nil]); first | done | rfl | (simp only [List.length_drop, List.length_take]; rfl)) ?_; (with_reducible refine (impl_around.calls k a0_0 a0_1 a0_2 a1 t359 _ A5.out).mono ?_); rintro e w10 ⟨v360, rfl, ho0, hb⟩; refine ⟨_, rfl, ?_⟩; have n0_ := Aside0.mk (Kd.R_lower ho0 (below_size (by repeat (first | (with_reducible first | exact HB.out | apply wa | apply wN | apply wd | refine ws ?_ GE357.out) | exact HB.out)))); have n1_ := Aside0.mk (bb (g := gb357) (by first | (with_reducible exact BK357.out) | (with_reducible exact bN BK357.out _) | (with_reducible exact bd BK357.out) | ((with_reducible repeat first | apply bN | apply bd | apply ba); exact BK357.out)) hb); have n2_ := Aside0.mk (below_step (by repeat (first | (with_reducible first | exact HB.out | apply wa | apply wN | apply wd | refine ws ?_ GE357.out) | exact HB.out)) hb); clear BK357; clear HB; have HO361 := n0_; have BK357 := n1_; have HB := n2_; clear n0_ n1_ n2_; (try clear hb); (try clear hb2); (try clear hk); (try clear hi); (try clear ho0)))
  go_ret
  exact ⟨_, by first | rfl | (simp [errW_none, errW_some] <;> rfl) | (simp [*, errW_none, errW_some] <;> rfl), by (with_reducible repeat (first | apply Kd.Ra | apply Kd.Rn | apply Kd.Rd)); exact HO361.out, by repeat (first | (with_reducible first | exact HB.out | apply wa | apply wN | apply wd | refine ws ?_ GE357.out) | exact HB.out)⟩

/-! ### impl_Beside: function 82 -/
def impl_Beside.f (k : Nat) (a0_0 : Int) (a0_1 : Int) (a0_2 : ByteArray) (a1 : Int) (a2 : Int) : Option (Bool) := (impl_Around.f k a0_0 a0_1 a0_2 a1).bind fun t363 => ((slices_Contains_int_int.f k t363 a2).bind fun t366 => (some t366))
theorem impl_Beside.mono : ∀ a0 a1 a2 a3 a4 k, LeO (impl_Beside.f k a0 a1 a2 a3 a4) (impl_Beside.f (k + 1) a0 a1 a2 a3 a4) := by
  intro a0 a1 a2 a3 a4 k
  unfold impl_Beside.f
  repeat' first
      | (with_reducible exact impl_Around.mono _ _ _ _ _)
      | (with_reducible exact slices_Contains_int_int.mono _ _ _)
      | (with_reducible exact LeO.refl _)
      | (with_reducible exact LeO.none _)
      | (with_reducible refine LeO.ite ?_ ?_)
      | (with_reducible refine LeO.bind ?_ (fun _ => ?_))
      | exact impl_Around.mono _ _ _ _ _
      | exact slices_Contains_int_int.mono _ _ _
      | exact LeO.none _
      | refine LeO.ite ?_ ?_
      | refine LeO.bind ?_ (fun _ => ?_)
set_option maxHeartbeats 8000000 in
set_option maxRecDepth 100000 in
theorem impl_Beside.calls (k : Nat) (a0_0 : Int) (a0_1 : Int) (a0_2 : ByteArray) (a1 : Int) (a2 : Int) (r : Bool) (w : World) (h : impl_Beside.f k a0_0 a0_1 a0_2 a1 a2 = some r) :
    Calls Try.prog 82 #[.agg #[.int .i64 a0_0, .int .i64 a0_1, .string a0_2], .int .i64 a1, .int .i64 a2] w fun e w' => e = .returned (.bool r) ∧ Below w.heap.size w w' := by
  have hu27 := Try.underlying27
  have HB := Aside0.mk (Below.refl w.heap.size w)
  have H : ((impl_Around.f k a0_0 a0_1 a0_2 a1).bind fun t363 => ((slices_Contains_int_int.f k t363 a2).bind fun t366 => (some t366))) = some r := h
  clear h
  replace H := Option.bind_eq_some_iff.mp H
  obtain ⟨t363, A40, H⟩ := H
  try dsimp only at H
  have A4 := Aside0.mk A40
  clear A40
  replace H := Option.bind_eq_some_iff.mp H
  obtain ⟨t366, A50, H⟩ := H
  try dsimp only at H
  have A5 := Aside0.mk A50
  clear A50
  obtain rfl := Option.some.inj H
  go_enter Try.func82, Try.ntmps82
  go_wp2_with (first | ((with_reducible refine gate_dst (N := 3) rfl ?_); refine box_event ?hg (N := 3) ?hd (cs := #[.int .i64 a0_0, .int .i64 a0_1, .string a0_2]) (t := 27) ?hr ?_; (case hd => rfl); (case hg => rfl); (case hr => first | (go_simp; done) | (go_simp; rfl)); intro gb362 hg w6 hbox hb; have n0_ := Aside0.mk (below_step (by repeat (first | (with_reducible first | exact HB.out | apply wa | apply wN | apply wd) | exact HB.out)) hb); have n1_ := Aside0.mk (hbox); have n2_ := Aside0.mk ((by rw [hg]; exact (below_size (by repeat (first | (with_reducible first | exact HB.out | apply wa | apply wN | apply wd) | exact HB.out))) : w.heap.size ≤ gb362)); have n3_ := n2_; clear HB; have HB := n0_; have BK362 := n1_; have GW362 := n2_; have GE362 := n3_; clear n0_ n1_ n2_ n3_; clear hb hbox hg; have hcz7_0 : w6.cell? ⟨gb362, 0, none⟩ = some (.int .i64 a0_0) := (bc BK362.out 0).trans rfl; have hcz7_1 : w6.cell? ⟨gb362, 1, none⟩ = some (.int .i64 a0_1) := (bc BK362.out 1).trans rfl; have hcz7_2 : w6.cell? ⟨gb362, 2, none⟩ = some (.string a0_2) := (bc BK362.out 2).trans rfl) | ((with_reducible refine gate_callee (f := 123) rfl ?_); refine goesL_ (some 9) rfl rfl Try.func123 (by kernel_rfl) rfl #[.agg #[.int .i64 a0_0, .int .i64 a0_1, .string a0_2], .int .i64 a1] rfl (by (try simp only [List.map_toArray, List.map_cons, List.map_nil]); first | done | rfl | (simp only [List.length_drop, List.length_take]; rfl)) ?_; (with_reducible refine (impl_Around.calls k a0_0 a0_1 a0_2 a1 t363 _ A4.out).mono ?_); rintro e w8 ⟨v364, rfl, ho0, hb⟩; refine ⟨_, rfl, ?_⟩; have n0_ := Aside0.mk (Kd.R_lower ho0 (below_size (by repeat (first | (with_reducible first | exact HB.out | apply wa | apply wN | apply wd | refine ws ?_ GE362.out) | exact HB.out)))); have n1_ := Aside0.mk (bb (g := gb362) (by first | (with_reducible exact BK362.out) | (with_reducible exact bN BK362.out _) | (with_reducible exact bd BK362.out) | ((with_reducible repeat first | apply bN | apply bd | apply ba); exact BK362.out)) hb); have n2_ := Aside0.mk (below_step (by repeat (first | (with_reducible first | exact HB.out | apply wa | apply wN | apply wd | refine ws ?_ GE362.out) | exact HB.out)) hb); clear BK362; clear HB; have HO365 := n0_; have BK362 := n1_; have HB := n2_; clear n0_ n1_ n2_; (try clear hb); (try clear hb2); (try clear hk); (try clear hi); (try clear ho0); obtain ⟨Ao9, co9, eo9⟩ := Kd.R_slice HO365.out; subst eo9) | ((with_reducible refine gate_callee (f := 99) rfl ?_); refine goesL_ (some 11) rfl rfl Try.func99 (by kernel_rfl) rfl #[.slice Ao9 t363.length co9, .int .i64 a2] rfl (by (try simp only [List.map_toArray, List.map_cons, List.map_nil]); first | done | rfl | (simp only [List.length_drop, List.length_take]; rfl)) ?_; (with_reducible refine (slices_Contains_int_int.calls k _ _ t363 a2 t366 _ ?side1 ?side2 A5.out).mono ?_); (case side1 => repeat (first | exact (Kd.R_reads' HO365.out).2.2 | (with_reducible refine Kd.Ca ?_ _) | (with_reducible refine Kd.Cn ?_ _) | (with_reducible refine Kd.Cd ?_))); (case side2 => exact (Kd.R_reads' HO365.out).2.1); rintro e w' ⟨rfl, ⟨nd, rfl⟩⟩; refine ⟨_, rfl, ?_⟩))
  go_ret
  exact ⟨by first | rfl | (simp [errW_none, errW_some] <;> rfl) | (simp [*, errW_none, errW_some] <;> rfl), by repeat (first | (with_reducible first | exact HB.out | apply wa | apply wN | apply wd | refine ws ?_ GE362.out) | exact HB.out)⟩

/-! ### impl_SafeYard: function 21 -/
def impl_SafeYard.go (k : Nat) (a0_0 : Int) (a0_1 : Int) (a0_2 : ByteArray) : List S84 → List Int → Option Bool
  | [], _ => some true
  | r :: t, s => if s.contains r.f0 = true then some false else (impl_FreeAt.f k a0_0 a0_1 a0_2 r.f1).bind fun b => if b = true then (if r.f2 = -1 then impl_SafeYard.go k a0_0 a0_1 a0_2 t (r.f0 :: s) else (impl_Beside.f k a0_0 a0_1 a0_2 r.f1 r.f2).bind fun c => if c = true then impl_SafeYard.go k a0_0 a0_1 a0_2 t (r.f0 :: s) else some false) else some false
theorem impl_SafeYard.mono_go (k : Nat) (a0_0 : Int) (a0_1 : Int) (a0_2 : ByteArray) : ∀ (l : List S84) (s : List Int), LeO (impl_SafeYard.go k a0_0 a0_1 a0_2 l s) (impl_SafeYard.go (k + 1) a0_0 a0_1 a0_2 l s) := by
  intro l
  induction l with
  | nil => exact fun s => LeO.refl _
  | cons r t ih =>
    intro s
    unfold impl_SafeYard.go
    exact LeO.ite (LeO.refl _) (LeO.bind (impl_FreeAt.mono _ _ _ _ _) (fun b => LeO.ite (LeO.ite (ih _) (LeO.bind (impl_Beside.mono _ _ _ _ _ _) (fun c => LeO.ite (ih _) (LeO.refl _)))) (LeO.refl _)))
def impl_SafeYard.f (k : Nat) (a0_0 : Int) (a0_1 : Int) (a0_2 : ByteArray) (a0_3 : Int) (a0_4 : Int) (a0_5 : Int) (a0_6 : Int) (l0_7 : List (S84)) (a0_8 : Int) (a0_9 : Int) (l0_10 : List Int) (a0_11 : Int) (a0_12 : Bool) (a0_13 : Int) (a0_14 : Int) (l0_15 : List (S143)) (l0_16 : List (S141)) (l0_17 : List Int) : Option (Bool) :=
  if (l0_7.length : Int) > 1000 then some false else (impl_areApart.f l0_7).bind fun b => if b = true then (if (l0_7.all fun x => (Lit.int .i64 x.f0).wf) = true then impl_SafeYard.go k a0_0 a0_1 a0_2 l0_7 [] else none) else some false
theorem impl_SafeYard.mono : ∀ a0 a1 a2 a3 a4 a5 a6 a7 a8 a9 a10 a11 a12 a13 a14 a15 a16 a17 k, LeO (impl_SafeYard.f k a0 a1 a2 a3 a4 a5 a6 a7 a8 a9 a10 a11 a12 a13 a14 a15 a16 a17) (impl_SafeYard.f (k + 1) a0 a1 a2 a3 a4 a5 a6 a7 a8 a9 a10 a11 a12 a13 a14 a15 a16 a17) := by
  intros
  unfold impl_SafeYard.f
  exact LeO.ite (LeO.refl _) (LeO.bind (LeO.refl _) (fun b => LeO.ite (LeO.ite (impl_SafeYard.mono_go _ _ _ _ _ _) (LeO.refl _)) (LeO.refl _)))
open Go.Proofs.Ytfinjkjnoobbjaa.MySet Go.Maps in
set_option maxHeartbeats 8000000 in
set_option maxRecDepth 100000 in
theorem impl_SafeYard.calls (k : Nat) (a0_0 : Int) (a0_1 : Int) (a0_2 : ByteArray) (a0_3 : Int) (a0_4 : Int) (a0_5 : Int) (a0_6 : Int) (A0_7 : Option Addr) (c0_7 : Nat) (l0_7 : List (S84)) (a0_8 : Int) (a0_9 : Int) (A0_10 : Option Addr) (c0_10 : Nat) (l0_10 : List Int) (a0_11 : Int) (a0_12 : Bool) (a0_13 : Int) (a0_14 : Int) (A0_15 : Option Addr) (c0_15 : Nat) (l0_15 : List (S143)) (A0_16 : Option Addr) (c0_16 : Nat) (l0_16 : List (S141)) (A0_17 : Option Addr) (c0_17 : Nat) (l0_17 : List Int) (r : Bool) (w : World) (hr0_7 : Kd.C k84 w A0_7 l0_7.length l0_7) (hc0_7 : l0_7.length ≤ c0_7) (hr0_10 : Kd.C (Kd.int .i64) w A0_10 l0_10.length l0_10) (hc0_10 : l0_10.length ≤ c0_10) (hr0_15 : Kd.C k143 w A0_15 l0_15.length l0_15) (hc0_15 : l0_15.length ≤ c0_15) (hr0_16 : Kd.C k141 w A0_16 l0_16.length l0_16) (hc0_16 : l0_16.length ≤ c0_16) (hr0_17 : Kd.C (Kd.int .i64) w A0_17 l0_17.length l0_17) (hc0_17 : l0_17.length ≤ c0_17) (h : impl_SafeYard.f k a0_0 a0_1 a0_2 a0_3 a0_4 a0_5 a0_6 l0_7 a0_8 a0_9 l0_10 a0_11 a0_12 a0_13 a0_14 l0_15 l0_16 l0_17 = some r) :
    Calls Try.prog 21 #[.agg #[.int .i64 a0_0, .int .i64 a0_1, .string a0_2, .int .i64 a0_3, .int .i64 a0_4, .int .i64 a0_5, .int .i64 a0_6, .slice A0_7 l0_7.length c0_7, .int .i64 a0_8, .int .i64 a0_9, .slice A0_10 l0_10.length c0_10, .int .i64 a0_11, .bool a0_12, .int .i64 a0_13, .int .i64 a0_14, .slice A0_15 l0_15.length c0_15, .slice A0_16 l0_16.length c0_16, .slice A0_17 l0_17.length c0_17]] w fun e w' => e = .returned (.bool r) ∧ Below w.heap.size w w' := by
  clear hr0_10 hr0_15 hr0_16 hr0_17 hc0_10 hc0_15 hc0_16 hc0_17
  generalize l0_10.length = n10
  generalize l0_15.length = n15
  generalize l0_16.length = n16
  generalize l0_17.length = n17
  unfold impl_SafeYard.f at h
  have hu39 := Try.underlying39
  have hu27 := Try.underlying27
  have hu84 := Try.underlying84
  have HR := Aside0.mk hr0_7
  have HC := Aside0.mk hc0_7
  clear hr0_7 hc0_7
  by_cases hlen : (l0_7.length : Int) > 1000
  · rw [if_pos hlen] at h
    obtain rfl := Option.some.inj h
    have hd1 : decide ((1000 : Int) < (l0_7.length : Int)) = true := decide_eq_true (by omega)
    have hd2 : decide ((1000 : Nat) < l0_7.length) = true := decide_eq_true (by omega)
    clear h
    go_enter Try.func21, Try.ntmps21
    go_wp2_with (first
      | ((with_reducible refine gate_dst (N := 1) rfl ?_); refine box_event ?hg (N := 1) ?hd (cs := #[.int .i64 a0_0, .int .i64 a0_1, .string a0_2, .int .i64 a0_3, .int .i64 a0_4, .int .i64 a0_5, .int .i64 a0_6, .slice A0_7 l0_7.length c0_7, .int .i64 a0_8, .int .i64 a0_9, .slice A0_10 n10 c0_10, .int .i64 a0_11, .bool a0_12, .int .i64 a0_13, .int .i64 a0_14, .slice A0_15 n15 c0_15, .slice A0_16 n16 c0_16, .slice A0_17 n17 c0_17]) (t := 39) ?hr ?_; (case hd => rfl); (case hg => rfl); (case hr => first | (go_simp; done) | (go_simp; rfl)); intro gy hgy w1 hbox hb1; have HB1 := Aside0.mk hb1; have BK1 := Aside0.mk hbox; have GY : Aside0 (w.heap.size ≤ gy) := ⟨Nat.le_of_eq hgy.symm⟩; clear hb1 hbox hgy; have hz0 : w1.cell? ⟨gy, 0, none⟩ = some (.int .i64 a0_0) := (bc BK1.out 0).trans rfl; have hz1 : w1.cell? ⟨gy, 1, none⟩ = some (.int .i64 a0_1) := (bc BK1.out 1).trans rfl; have hz2 : w1.cell? ⟨gy, 2, none⟩ = some (.string a0_2) := (bc BK1.out 2).trans rfl)
      | ((with_reducible refine gate_dst (N := 3) rfl ?_); refine box_event ?hg (N := 3) ?hd (cs := #[.int .i64 0, .int .i64 0, .string (⟨#[]⟩ : ByteArray)]) (t := 27) ?hr ?_; (case hd => rfl); (case hg => rfl); (case hr => first | (go_simp; done) | (go_simp; rfl)); intro g3 hg3 w2 hbox hb2; have HB2 := Aside0.mk (below_step HB1.out hb2); have BK2 := Aside0.mk hbox; have BY2 := Aside0.mk (bb BK1.out hb2); have G3 : Aside0 (w.heap.size ≤ g3) := ⟨by rw [hg3]; exact HB1.out.size⟩; have GN : Aside0 (gy ≠ g3) := ⟨by rw [hg3]; exact Nat.ne_of_lt (blk_lt BK1.out)⟩; clear hb2 hbox hg3 hz0 hz1 hz2)
      | ((with_reducible refine gate_store (t := 27) (p := 3) rfl ?_); refine store_event (t := 27) (p := 3) (v := ?vo_w31) (w1 := (((w2.setCell ⟨g3, 0, none⟩ (.int .i64 a0_0)).setCell ⟨g3, 1, none⟩ (.int .i64 a0_1)).setCell ⟨g3, 2, none⟩ (.string a0_2))) ?hg ?ho ?hn ?hr ?_; (case ho => rfl); (case hg => rfl); (case hn => rfl); (case hr => exact Go.Proofs.Ytfinjkjnoobbjaa.MyHof.exec_store_run [.int .i64 a0_0, .int .i64 a0_1, .string a0_2] rfl rfl rfl BK2.out rfl (by kernel_rfl) (by simp) rfl rfl); intro w3 hw3; have HB3 : Aside0 (Below w.heap.size w w3) := ⟨by rw [hw3]; exact ws (ws (ws HB2.out G3.out) G3.out) G3.out⟩; have BG3 : Aside0 (w3.heap[g3]? = some (.cells #[.int .i64 a0_0, .int .i64 a0_1, .string a0_2] 27 (0, 0))) := ⟨by rw [hw3]; exact blk_set (blk_set (blk_set BK2.out 0 _) 1 _) 2 _⟩; have BY3 : Aside0 (w3.heap[gy]? = some (.cells #[.int .i64 a0_0, .int .i64 a0_1, .string a0_2, .int .i64 a0_3, .int .i64 a0_4, .int .i64 a0_5, .int .i64 a0_6, .slice A0_7 l0_7.length c0_7, .int .i64 a0_8, .int .i64 a0_9, .slice A0_10 n10 c0_10, .int .i64 a0_11, .bool a0_12, .int .i64 a0_13, .int .i64 a0_14, .slice A0_15 n15 c0_15, .slice A0_16 n16 c0_16, .slice A0_17 n17 c0_17] 39 (0, 0))) := ⟨by rw [hw3]; exact (Below.heap_setCell _ _ _ _ (by exact GN.out)).trans ((Below.heap_setCell _ _ _ _ (by exact GN.out)).trans ((Below.heap_setCell _ _ _ _ (by exact GN.out)).trans BY2.out))⟩; clear hw3; have hz7 : w3.cell? ⟨gy, 7, none⟩ = some (.slice A0_7 l0_7.length c0_7) := (bc BY3.out 7).trans rfl))
    go_ret
    exact ⟨rfl, HB3.out⟩
  rw [if_neg hlen] at h
  obtain ⟨b, hb, h⟩ := Option.bind_eq_some_iff.1 h
  have HA := Aside0.mk hb
  have HH := Aside0.mk h
  have HLEN := Aside0.mk hlen
  have hd1 : decide ((1000 : Int) < (l0_7.length : Int)) = false := decide_eq_false (by omega)
  have hd2 : decide ((1000 : Nat) < l0_7.length) = false := decide_eq_false (by omega)
  have hmm := @run_makeMap Try.prog
  have law : Keyed Try.prog 3 := int_keyed Try.underlying3
  clear hb h hlen
  cases b with
  | false =>
    go_enter Try.func21, Try.ntmps21
    go_wp2_with (first
      | ((with_reducible refine gate_dst (N := 1) rfl ?_); refine box_event ?hg (N := 1) ?hd (cs := #[.int .i64 a0_0, .int .i64 a0_1, .string a0_2, .int .i64 a0_3, .int .i64 a0_4, .int .i64 a0_5, .int .i64 a0_6, .slice A0_7 l0_7.length c0_7, .int .i64 a0_8, .int .i64 a0_9, .slice A0_10 n10 c0_10, .int .i64 a0_11, .bool a0_12, .int .i64 a0_13, .int .i64 a0_14, .slice A0_15 n15 c0_15, .slice A0_16 n16 c0_16, .slice A0_17 n17 c0_17]) (t := 39) ?hr ?_; (case hd => rfl); (case hg => rfl); (case hr => first | (go_simp; done) | (go_simp; rfl)); intro gy hgy w1 hbox hb1; have HB1 := Aside0.mk hb1; have BK1 := Aside0.mk hbox; have GY : Aside0 (w.heap.size ≤ gy) := ⟨Nat.le_of_eq hgy.symm⟩; clear hb1 hbox hgy; have hz0 : w1.cell? ⟨gy, 0, none⟩ = some (.int .i64 a0_0) := (bc BK1.out 0).trans rfl; have hz1 : w1.cell? ⟨gy, 1, none⟩ = some (.int .i64 a0_1) := (bc BK1.out 1).trans rfl; have hz2 : w1.cell? ⟨gy, 2, none⟩ = some (.string a0_2) := (bc BK1.out 2).trans rfl)
      | ((with_reducible refine gate_dst (N := 3) rfl ?_); refine box_event ?hg (N := 3) ?hd (cs := #[.int .i64 0, .int .i64 0, .string (⟨#[]⟩ : ByteArray)]) (t := 27) ?hr ?_; (case hd => rfl); (case hg => rfl); (case hr => first | (go_simp; done) | (go_simp; rfl)); intro g3 hg3 w2 hbox hb2; have HB2 := Aside0.mk (below_step HB1.out hb2); have BK2 := Aside0.mk hbox; have BY2 := Aside0.mk (bb BK1.out hb2); have G3 : Aside0 (w.heap.size ≤ g3) := ⟨by rw [hg3]; exact HB1.out.size⟩; have GN : Aside0 (gy ≠ g3) := ⟨by rw [hg3]; exact Nat.ne_of_lt (blk_lt BK1.out)⟩; clear hb2 hbox hg3 hz0 hz1 hz2)
      | ((with_reducible refine gate_store (t := 27) (p := 3) rfl ?_); refine store_event (t := 27) (p := 3) (v := ?vo_w32) (w1 := (((w2.setCell ⟨g3, 0, none⟩ (.int .i64 a0_0)).setCell ⟨g3, 1, none⟩ (.int .i64 a0_1)).setCell ⟨g3, 2, none⟩ (.string a0_2))) ?hg ?ho ?hn ?hr ?_; (case ho => rfl); (case hg => rfl); (case hn => rfl); (case hr => exact Go.Proofs.Ytfinjkjnoobbjaa.MyHof.exec_store_run [.int .i64 a0_0, .int .i64 a0_1, .string a0_2] rfl rfl rfl BK2.out rfl (by kernel_rfl) (by simp) rfl rfl); intro w3 hw3; have HB3 : Aside0 (Below w.heap.size w w3) := ⟨by rw [hw3]; exact ws (ws (ws HB2.out G3.out) G3.out) G3.out⟩; have BG3 : Aside0 (w3.heap[g3]? = some (.cells #[.int .i64 a0_0, .int .i64 a0_1, .string a0_2] 27 (0, 0))) := ⟨by rw [hw3]; exact blk_set (blk_set (blk_set BK2.out 0 _) 1 _) 2 _⟩; have BY3 : Aside0 (w3.heap[gy]? = some (.cells #[.int .i64 a0_0, .int .i64 a0_1, .string a0_2, .int .i64 a0_3, .int .i64 a0_4, .int .i64 a0_5, .int .i64 a0_6, .slice A0_7 l0_7.length c0_7, .int .i64 a0_8, .int .i64 a0_9, .slice A0_10 n10 c0_10, .int .i64 a0_11, .bool a0_12, .int .i64 a0_13, .int .i64 a0_14, .slice A0_15 n15 c0_15, .slice A0_16 n16 c0_16, .slice A0_17 n17 c0_17] 39 (0, 0))) := ⟨by rw [hw3]; exact (Below.heap_setCell _ _ _ _ (by exact GN.out)).trans ((Below.heap_setCell _ _ _ _ (by exact GN.out)).trans ((Below.heap_setCell _ _ _ _ (by exact GN.out)).trans BY2.out))⟩; clear hw3; have hz7 : w3.cell? ⟨gy, 7, none⟩ = some (.slice A0_7 l0_7.length c0_7) := (bc BY3.out 7).trans rfl)
      | (go_at_call 80; refine (impl_areApart.calls A0_7 c0_7 l0_7 _ _ (Kd.C_below HR.out HB3.out) HC.out HA.out).mono ?_; rintro e w4 ⟨rfl, hb4⟩; have HB4 := Aside0.mk (below_step HB3.out hb4); have BG4 := Aside0.mk (bb BG3.out hb4); have BY4 := Aside0.mk (bb BY3.out hb4); clear hb4 hz7; have hz7 : ∀ o, (w4.alloc o).cell? ⟨gy, 7, none⟩ = some (.slice A0_7 l0_7.length c0_7) := fun o => (bc (ba BY4.out o) 7).trans rfl))
    go_ret
    refine ⟨?_, HB4.out⟩
    have h := HH.out
    rw [if_neg (by decide)] at h
    rw [Option.some.inj h]
    rfl
  | true =>
    have h := HH.out
    rw [if_pos rfl] at h
    by_cases hall : (l0_7.all fun x => (Lit.int .i64 x.f0).wf) = true
    rotate_left
    · rw [if_neg hall] at h
      exact absurd h (by simp)
    rw [if_pos hall] at h
    have HW := Aside0.mk hall
    have HG := Aside0.mk h
    clear h hall HH
    go_enter Try.func21, Try.ntmps21
    go_wp2_with (first
      | ((with_reducible refine gate_dst (N := 1) rfl ?_); refine box_event ?hg (N := 1) ?hd (cs := #[.int .i64 a0_0, .int .i64 a0_1, .string a0_2, .int .i64 a0_3, .int .i64 a0_4, .int .i64 a0_5, .int .i64 a0_6, .slice A0_7 l0_7.length c0_7, .int .i64 a0_8, .int .i64 a0_9, .slice A0_10 n10 c0_10, .int .i64 a0_11, .bool a0_12, .int .i64 a0_13, .int .i64 a0_14, .slice A0_15 n15 c0_15, .slice A0_16 n16 c0_16, .slice A0_17 n17 c0_17]) (t := 39) ?hr ?_; (case hd => rfl); (case hg => rfl); (case hr => first | (go_simp; done) | (go_simp; rfl)); intro gy hgy w1 hbox hb1; have HB1 := Aside0.mk hb1; have BK1 := Aside0.mk hbox; have GY : Aside0 (w.heap.size ≤ gy) := ⟨Nat.le_of_eq hgy.symm⟩; clear hb1 hbox hgy; have hz0 : w1.cell? ⟨gy, 0, none⟩ = some (.int .i64 a0_0) := (bc BK1.out 0).trans rfl; have hz1 : w1.cell? ⟨gy, 1, none⟩ = some (.int .i64 a0_1) := (bc BK1.out 1).trans rfl; have hz2 : w1.cell? ⟨gy, 2, none⟩ = some (.string a0_2) := (bc BK1.out 2).trans rfl)
      | ((with_reducible refine gate_dst (N := 3) rfl ?_); refine box_event ?hg (N := 3) ?hd (cs := #[.int .i64 0, .int .i64 0, .string (⟨#[]⟩ : ByteArray)]) (t := 27) ?hr ?_; (case hd => rfl); (case hg => rfl); (case hr => first | (go_simp; done) | (go_simp; rfl)); intro g3 hg3 w2 hbox hb2; have HB2 := Aside0.mk (below_step HB1.out hb2); have BK2 := Aside0.mk hbox; have BY2 := Aside0.mk (bb BK1.out hb2); have G3 : Aside0 (w.heap.size ≤ g3) := ⟨by rw [hg3]; exact HB1.out.size⟩; have GN : Aside0 (gy ≠ g3) := ⟨by rw [hg3]; exact Nat.ne_of_lt (blk_lt BK1.out)⟩; clear hb2 hbox hg3 hz0 hz1 hz2)
      | ((with_reducible refine gate_store (t := 27) (p := 3) rfl ?_); refine store_event (t := 27) (p := 3) (v := ?vo_w33) (w1 := (((w2.setCell ⟨g3, 0, none⟩ (.int .i64 a0_0)).setCell ⟨g3, 1, none⟩ (.int .i64 a0_1)).setCell ⟨g3, 2, none⟩ (.string a0_2))) ?hg ?ho ?hn ?hr ?_; (case ho => rfl); (case hg => rfl); (case hn => rfl); (case hr => exact Go.Proofs.Ytfinjkjnoobbjaa.MyHof.exec_store_run [.int .i64 a0_0, .int .i64 a0_1, .string a0_2] rfl rfl rfl BK2.out rfl (by kernel_rfl) (by simp) rfl rfl); intro w3 hw3; have HB3 : Aside0 (Below w.heap.size w w3) := ⟨by rw [hw3]; exact ws (ws (ws HB2.out G3.out) G3.out) G3.out⟩; have BG3 : Aside0 (w3.heap[g3]? = some (.cells #[.int .i64 a0_0, .int .i64 a0_1, .string a0_2] 27 (0, 0))) := ⟨by rw [hw3]; exact blk_set (blk_set (blk_set BK2.out 0 _) 1 _) 2 _⟩; have BY3 : Aside0 (w3.heap[gy]? = some (.cells #[.int .i64 a0_0, .int .i64 a0_1, .string a0_2, .int .i64 a0_3, .int .i64 a0_4, .int .i64 a0_5, .int .i64 a0_6, .slice A0_7 l0_7.length c0_7, .int .i64 a0_8, .int .i64 a0_9, .slice A0_10 n10 c0_10, .int .i64 a0_11, .bool a0_12, .int .i64 a0_13, .int .i64 a0_14, .slice A0_15 n15 c0_15, .slice A0_16 n16 c0_16, .slice A0_17 n17 c0_17] 39 (0, 0))) := ⟨by rw [hw3]; exact (Below.heap_setCell _ _ _ _ (by exact GN.out)).trans ((Below.heap_setCell _ _ _ _ (by exact GN.out)).trans ((Below.heap_setCell _ _ _ _ (by exact GN.out)).trans BY2.out))⟩; clear hw3; have hz7 : w3.cell? ⟨gy, 7, none⟩ = some (.slice A0_7 l0_7.length c0_7) := (bc BY3.out 7).trans rfl)
      | (go_at_call 80; refine (impl_areApart.calls A0_7 c0_7 l0_7 _ _ (Kd.C_below HR.out HB3.out) HC.out HA.out).mono ?_; rintro e w4 ⟨rfl, hb4⟩; have HB4 := Aside0.mk (below_step HB3.out hb4); have BG4 := Aside0.mk (bb BG3.out hb4); have BY4 := Aside0.mk (bb BY3.out hb4); clear hb4 hz7; have hz7 : ∀ o, (w4.alloc o).cell? ⟨gy, 7, none⟩ = some (.slice A0_7 l0_7.length c0_7) := fun o => (bc (ba BY4.out o) 7).trans rfl))
    have NE3 : Aside0 (g3 < w4.heap.size) := ⟨blk_lt BG4.out⟩
    go_loopg [24] l0_7.length (fun gg s24 wr => ∃ (x n : Nat) (s : List Int), s24 = .int .i64 x ∧ Aside0 (x ≤ l0_7.length ∧ l0_7.length - x ≤ gg ∧ n ≤ x) ∧ Aside0 (Below w.heap.size w wr) ∧ Aside0 (w4.heap.size < wr.heap.size) ∧ Aside0 (SetAt Try.prog 3 4 wr w4.heap.size n s) ∧ Aside0 (wr.heap[g3]? = some (.cells #[.int .i64 a0_0, .int .i64 a0_1, .string a0_2] 27 (0, 0))) ∧ Aside0 (impl_SafeYard.go k a0_0 a0_1 a0_2 (l0_7.drop x) s = some r))
    case atStart => exact ⟨0, 0, [], rfl, ⟨by omega⟩, ⟨wa HB4.out _⟩, ⟨by simp⟩, ⟨SetAt.made _ _ _ w4⟩, ⟨ba BG4.out _⟩, ⟨by rw [List.drop_zero]; exact HG.out⟩⟩
    case round =>
      obtain ⟨x, n, s, rfl, HX, HB, HS, HSET, HBG, HGO⟩ := hrel
      by_cases hlt : x < l0_7.length
      rotate_left
      · have HL := Aside0.mk hlt
        have hlt' : decide ((x : Int) < (l0_7.length : Int)) = false := decide_eq_false (by omega)
        have hlt2 : ¬ (x : Int) < (l0_7.length : Int) := by omega
        clear hlt
        go_wp2
        go_ret
        refine ⟨?_, HB.out⟩
        have hx : x = l0_7.length := by have := HL.out; have := HX.out; omega
        have hg := HGO.out
        rw [hx, List.drop_length, impl_SafeYard.go] at hg
        rw [Option.some.inj hg]
        rfl
      obtain ⟨v, hv⟩ : ∃ v, v = l0_7[x] := ⟨_, rfl⟩
      have hv0 : rd_T84 l0_7 (x : Int) = v := by rw [hv]; simp [rd_T84, List.getD, hlt]
      have hvw : (Lit.int .i64 v.f0).wf = true := List.all_eq_true.1 HW.out v (by rw [hv]; exact List.getElem_mem hlt)
      have hgo := HGO.out
      rw [show l0_7.drop x = v :: l0_7.drop (x + 1) by rw [hv]; exact List.drop_eq_getElem_cons hlt, impl_SafeYard.go] at hgo
      obtain ⟨ad, e, hx0, hx1, hx2, hx3⟩ := at_T84 HR.out (x : Int) (by omega) (by omega)
      cases e
      rw [hv0] at hx0 hx1 hx2 hx3
      simp only [Int.toNat_natCast] at hx0 hx1 hx2 hx3
      replace hx0 := (HB.out.cell (World.block_lt_of_cell? w _ hx0)).trans hx0
      replace hx1 := (HB.out.cell (World.block_lt_of_cell? w _ hx1)).trans hx1
      replace hx2 := (HB.out.cell (World.block_lt_of_cell? w _ hx2)).trans hx2
      replace hx3 := (HB.out.cell (World.block_lt_of_cell? w _ hx3)).trans hx3
      have hlt1 : decide ((x : Int) < (l0_7.length : Int)) = true := decide_eq_true (by omega)
      have hlt2 : (x : Int) < (l0_7.length : Int) := by omega
      have hw : wrap64 ((x : Int) + 1) = ((x + 1 : Nat) : Int) := by have := HLEN.out; unfold wrap64; omega
      have HWV := Aside0.mk hvw
      have HLT := Aside0.mk hlt
      have HWR := Aside0.mk hw
      have HNM : Aside0 (n < maxLen) := ⟨by have := HX.out; have := HLEN.out; unfold maxLen; omega⟩
      clear hv hv0 hvw hw hlt
      by_cases hc1 : s.contains v.f0 = true
      · rw [if_pos hc1] at hgo
        obtain rfl := Option.some.inj hgo
        have HC1 := Aside0.mk hc1
        clear hc1 hgo
        go_wp2_with (first
          | ((with_reducible refine gate_dst (N := 6) rfl ?_); refine box_event ?hg (N := 6) ?hd (cs := #[.int .i64 0, .int .i64 0, .int .i64 0, .bool false]) (t := 84) ?hr ?_; (case hd => rfl); (case hg => rfl); (case hr => first | (go_simp; done) | (go_simp; rfl)); intro g5 hg5 w5 hbox5 hb5; replace hx0 := (hb5.cell (World.block_lt_of_cell? wr _ hx0)).trans hx0; replace hx1 := (hb5.cell (World.block_lt_of_cell? wr _ hx1)).trans hx1; replace hx2 := (hb5.cell (World.block_lt_of_cell? wr _ hx2)).trans hx2; replace hx3 := (hb5.cell (World.block_lt_of_cell? wr _ hx3)).trans hx3; have HB5 := Aside0.mk (below_step HB.out hb5); have S5 := Aside0.mk (HSET.out.below hb5); have BG5 := Aside0.mk (bb HBG.out hb5); have BK5 := Aside0.mk hbox5; have G5 : Aside0 (w4.heap.size < g5) := ⟨by rw [hg5]; exact HS.out⟩; have GW5 : Aside0 (w.heap.size ≤ g5) := ⟨by have := HB4.out.size; have := G5.out; omega⟩; have N53 : Aside0 (g3 ≠ g5) := ⟨by have := NE3.out; have := G5.out; omega⟩; clear hb5 hbox5 hg5)
          | ((with_reducible refine gate_store (t := 84) (p := 6) rfl ?_); refine store_event (t := 84) (p := 6) (v := ?vo_w61) (w1 := (((w5.setCell ⟨g5, 0, none⟩ (.int .i64 v.f0)).setCell ⟨g5, 1, none⟩ (.int .i64 v.f1)).setCell ⟨g5, 2, none⟩ (.int .i64 v.f2)).setCell ⟨g5, 3, none⟩ (.bool v.f3)) ?hg ?ho ?hn ?hr ?_; (case ho => rfl); (case hg => rfl); (case hn => rfl); (case hr => exact Go.Proofs.Ytfinjkjnoobbjaa.MyHof.exec_store_run [.int .i64 v.f0, .int .i64 v.f1, .int .i64 v.f2, .bool v.f3] rfl rfl rfl BK5.out rfl (by kernel_rfl) (by simp) rfl rfl); intro w6 hw6; have HB6 : Aside0 (Below w.heap.size w w6) := ⟨by rw [hw6]; exact below_set4 HB5.out GW5.out⟩; have BK6 : Aside0 (w6.heap[g5]? = some (.cells #[.int .i64 v.f0, .int .i64 v.f1, .int .i64 v.f2, .bool v.f3] 84 (0, 0))) := ⟨by rw [hw6]; exact blk_set4 BK5.out⟩; have S6 : Aside0 (SetAt Try.prog 3 4 w6 w4.heap.size n s) := ⟨by rw [hw6]; exact S5.out.far (heap_far4 (Nat.ne_of_lt G5.out))⟩; have BG6 : Aside0 (w6.heap[g3]? = some (.cells #[.int .i64 a0_0, .int .i64 a0_1, .string a0_2] 27 (0, 0))) := ⟨by rw [hw6]; exact (heap_far4 N53.out).trans BG5.out⟩; clear hw6 hx0 hx1 hx2 hx3; have h60 : w6.cell? ⟨g5, 0, none⟩ = some (.int .i64 v.f0) := (bc BK6.out 0).trans rfl; have h61 : w6.cell? ⟨g5, 1, none⟩ = some (.int .i64 v.f1) := (bc BK6.out 1).trans rfl; have h62 : w6.cell? ⟨g5, 2, none⟩ = some (.int .i64 v.f2) := (bc BK6.out 2).trans rfl; have h63 : w6.cell? ⟨g5, 3, none⟩ = some (.bool v.f3) := (bc BK6.out 3).trans rfl; have q60 : w6.cell? ⟨g3, 0, none⟩ = some (.int .i64 a0_0) := (bc BG6.out 0).trans rfl; have q61 : w6.cell? ⟨g3, 1, none⟩ = some (.int .i64 a0_1) := (bc BG6.out 1).trans rfl; have q62 : w6.cell? ⟨g3, 2, none⟩ = some (.string a0_2) := (bc BG6.out 2).trans rfl)
          | (at_lookup; refine wpList_lookup_set _ rfl _ _ 113 rfl law Try.underlying113 Try.underlying3 Try.underlying4 (Try.zeroValue4 _) w4.heap.size n s rfl S6.out v.f0 rfl HWV.out true HC1.out ?_))
        go_ret
        exact ⟨rfl, HB6.out⟩
      rw [if_neg hc1] at hgo
      have hc1' : s.contains v.f0 = false := by simpa using hc1
      have HC1 := Aside0.mk hc1'
      clear hc1 hc1'
      obtain ⟨b1, hb1, hgo⟩ := Option.bind_eq_some_iff.1 hgo
      have HF := Aside0.mk hb1
      clear hb1
      cases b1 with
      | false =>
        rw [if_neg (by decide)] at hgo
        obtain rfl := Option.some.inj hgo
        clear hgo
        go_wp2_with (first
          | ((with_reducible refine gate_dst (N := 6) rfl ?_); refine box_event ?hg (N := 6) ?hd (cs := #[.int .i64 0, .int .i64 0, .int .i64 0, .bool false]) (t := 84) ?hr ?_; (case hd => rfl); (case hg => rfl); (case hr => first | (go_simp; done) | (go_simp; rfl)); intro g5 hg5 w5 hbox5 hb5; replace hx0 := (hb5.cell (World.block_lt_of_cell? wr _ hx0)).trans hx0; replace hx1 := (hb5.cell (World.block_lt_of_cell? wr _ hx1)).trans hx1; replace hx2 := (hb5.cell (World.block_lt_of_cell? wr _ hx2)).trans hx2; replace hx3 := (hb5.cell (World.block_lt_of_cell? wr _ hx3)).trans hx3; have HB5 := Aside0.mk (below_step HB.out hb5); have S5 := Aside0.mk (HSET.out.below hb5); have BG5 := Aside0.mk (bb HBG.out hb5); have BK5 := Aside0.mk hbox5; have G5 : Aside0 (w4.heap.size < g5) := ⟨by rw [hg5]; exact HS.out⟩; have GW5 : Aside0 (w.heap.size ≤ g5) := ⟨by have := HB4.out.size; have := G5.out; omega⟩; have N53 : Aside0 (g3 ≠ g5) := ⟨by have := NE3.out; have := G5.out; omega⟩; clear hb5 hbox5 hg5)
          | ((with_reducible refine gate_store (t := 84) (p := 6) rfl ?_); refine store_event (t := 84) (p := 6) (v := ?vo_w62) (w1 := (((w5.setCell ⟨g5, 0, none⟩ (.int .i64 v.f0)).setCell ⟨g5, 1, none⟩ (.int .i64 v.f1)).setCell ⟨g5, 2, none⟩ (.int .i64 v.f2)).setCell ⟨g5, 3, none⟩ (.bool v.f3)) ?hg ?ho ?hn ?hr ?_; (case ho => rfl); (case hg => rfl); (case hn => rfl); (case hr => exact Go.Proofs.Ytfinjkjnoobbjaa.MyHof.exec_store_run [.int .i64 v.f0, .int .i64 v.f1, .int .i64 v.f2, .bool v.f3] rfl rfl rfl BK5.out rfl (by kernel_rfl) (by simp) rfl rfl); intro w6 hw6; have HB6 : Aside0 (Below w.heap.size w w6) := ⟨by rw [hw6]; exact below_set4 HB5.out GW5.out⟩; have BK6 : Aside0 (w6.heap[g5]? = some (.cells #[.int .i64 v.f0, .int .i64 v.f1, .int .i64 v.f2, .bool v.f3] 84 (0, 0))) := ⟨by rw [hw6]; exact blk_set4 BK5.out⟩; have S6 : Aside0 (SetAt Try.prog 3 4 w6 w4.heap.size n s) := ⟨by rw [hw6]; exact S5.out.far (heap_far4 (Nat.ne_of_lt G5.out))⟩; have BG6 : Aside0 (w6.heap[g3]? = some (.cells #[.int .i64 a0_0, .int .i64 a0_1, .string a0_2] 27 (0, 0))) := ⟨by rw [hw6]; exact (heap_far4 N53.out).trans BG5.out⟩; clear hw6 hx0 hx1 hx2 hx3; have h60 : w6.cell? ⟨g5, 0, none⟩ = some (.int .i64 v.f0) := (bc BK6.out 0).trans rfl; have h61 : w6.cell? ⟨g5, 1, none⟩ = some (.int .i64 v.f1) := (bc BK6.out 1).trans rfl; have h62 : w6.cell? ⟨g5, 2, none⟩ = some (.int .i64 v.f2) := (bc BK6.out 2).trans rfl; have h63 : w6.cell? ⟨g5, 3, none⟩ = some (.bool v.f3) := (bc BK6.out 3).trans rfl; have q60 : w6.cell? ⟨g3, 0, none⟩ = some (.int .i64 a0_0) := (bc BG6.out 0).trans rfl; have q61 : w6.cell? ⟨g3, 1, none⟩ = some (.int .i64 a0_1) := (bc BG6.out 1).trans rfl; have q62 : w6.cell? ⟨g3, 2, none⟩ = some (.string a0_2) := (bc BG6.out 2).trans rfl)
          | (at_lookup; refine wpList_lookup_set _ rfl _ _ 113 rfl law Try.underlying113 Try.underlying3 Try.underlying4 (Try.zeroValue4 _) w4.heap.size n s rfl S6.out v.f0 rfl HWV.out false HC1.out ?_)
          | (go_at_call 81; refine (impl_FreeAt.calls k a0_0 a0_1 a0_2 v.f1 _ _ HF.out).mono ?_; rintro e w7 ⟨rfl, hb7⟩; have HB7 := Aside0.mk (below_step HB6.out hb7); have S7 := Aside0.mk (S6.out.below hb7); have BK7 := Aside0.mk (bb BK6.out hb7); have BG7 := Aside0.mk (bb BG6.out hb7); clear hb7; clear h60 h61 h62 h63 q60 q61 q62; have h70 : w7.cell? ⟨g5, 0, none⟩ = some (.int .i64 v.f0) := (bc BK7.out 0).trans rfl; have h71 : w7.cell? ⟨g5, 1, none⟩ = some (.int .i64 v.f1) := (bc BK7.out 1).trans rfl; have h72 : w7.cell? ⟨g5, 2, none⟩ = some (.int .i64 v.f2) := (bc BK7.out 2).trans rfl; have h73 : w7.cell? ⟨g5, 3, none⟩ = some (.bool v.f3) := (bc BK7.out 3).trans rfl; have q70 : w7.cell? ⟨g3, 0, none⟩ = some (.int .i64 a0_0) := (bc BG7.out 0).trans rfl; have q71 : w7.cell? ⟨g3, 1, none⟩ = some (.int .i64 a0_1) := (bc BG7.out 1).trans rfl; have q72 : w7.cell? ⟨g3, 2, none⟩ = some (.string a0_2) := (bc BG7.out 2).trans rfl))
        go_ret
        exact ⟨rfl, HB7.out⟩
      | true =>
        rw [if_pos rfl] at hgo
        by_cases hto : v.f2 = -1
        · rw [if_pos hto] at hgo
          have HGN := Aside0.mk hgo
          have ht1 : (v.f2 != -1) = false := by rw [hto]; rfl
          have ht2 : (v.f2 == -1) = true := by rw [hto]; rfl
          clear hgo hto
          go_wp2_with (first
            | ((with_reducible refine gate_dst (N := 6) rfl ?_); refine box_event ?hg (N := 6) ?hd (cs := #[.int .i64 0, .int .i64 0, .int .i64 0, .bool false]) (t := 84) ?hr ?_; (case hd => rfl); (case hg => rfl); (case hr => first | (go_simp; done) | (go_simp; rfl)); intro g5 hg5 w5 hbox5 hb5; replace hx0 := (hb5.cell (World.block_lt_of_cell? wr _ hx0)).trans hx0; replace hx1 := (hb5.cell (World.block_lt_of_cell? wr _ hx1)).trans hx1; replace hx2 := (hb5.cell (World.block_lt_of_cell? wr _ hx2)).trans hx2; replace hx3 := (hb5.cell (World.block_lt_of_cell? wr _ hx3)).trans hx3; have HB5 := Aside0.mk (below_step HB.out hb5); have S5 := Aside0.mk (HSET.out.below hb5); have BG5 := Aside0.mk (bb HBG.out hb5); have BK5 := Aside0.mk hbox5; have G5 : Aside0 (w4.heap.size < g5) := ⟨by rw [hg5]; exact HS.out⟩; have GW5 : Aside0 (w.heap.size ≤ g5) := ⟨by have := HB4.out.size; have := G5.out; omega⟩; have N53 : Aside0 (g3 ≠ g5) := ⟨by have := NE3.out; have := G5.out; omega⟩; clear hb5 hbox5 hg5)
            | ((with_reducible refine gate_store (t := 84) (p := 6) rfl ?_); refine store_event (t := 84) (p := 6) (v := ?vo_w63) (w1 := (((w5.setCell ⟨g5, 0, none⟩ (.int .i64 v.f0)).setCell ⟨g5, 1, none⟩ (.int .i64 v.f1)).setCell ⟨g5, 2, none⟩ (.int .i64 v.f2)).setCell ⟨g5, 3, none⟩ (.bool v.f3)) ?hg ?ho ?hn ?hr ?_; (case ho => rfl); (case hg => rfl); (case hn => rfl); (case hr => exact Go.Proofs.Ytfinjkjnoobbjaa.MyHof.exec_store_run [.int .i64 v.f0, .int .i64 v.f1, .int .i64 v.f2, .bool v.f3] rfl rfl rfl BK5.out rfl (by kernel_rfl) (by simp) rfl rfl); intro w6 hw6; have HB6 : Aside0 (Below w.heap.size w w6) := ⟨by rw [hw6]; exact below_set4 HB5.out GW5.out⟩; have BK6 : Aside0 (w6.heap[g5]? = some (.cells #[.int .i64 v.f0, .int .i64 v.f1, .int .i64 v.f2, .bool v.f3] 84 (0, 0))) := ⟨by rw [hw6]; exact blk_set4 BK5.out⟩; have S6 : Aside0 (SetAt Try.prog 3 4 w6 w4.heap.size n s) := ⟨by rw [hw6]; exact S5.out.far (heap_far4 (Nat.ne_of_lt G5.out))⟩; have BG6 : Aside0 (w6.heap[g3]? = some (.cells #[.int .i64 a0_0, .int .i64 a0_1, .string a0_2] 27 (0, 0))) := ⟨by rw [hw6]; exact (heap_far4 N53.out).trans BG5.out⟩; clear hw6 hx0 hx1 hx2 hx3; have h60 : w6.cell? ⟨g5, 0, none⟩ = some (.int .i64 v.f0) := (bc BK6.out 0).trans rfl; have h61 : w6.cell? ⟨g5, 1, none⟩ = some (.int .i64 v.f1) := (bc BK6.out 1).trans rfl; have h62 : w6.cell? ⟨g5, 2, none⟩ = some (.int .i64 v.f2) := (bc BK6.out 2).trans rfl; have h63 : w6.cell? ⟨g5, 3, none⟩ = some (.bool v.f3) := (bc BK6.out 3).trans rfl; have q60 : w6.cell? ⟨g3, 0, none⟩ = some (.int .i64 a0_0) := (bc BG6.out 0).trans rfl; have q61 : w6.cell? ⟨g3, 1, none⟩ = some (.int .i64 a0_1) := (bc BG6.out 1).trans rfl; have q62 : w6.cell? ⟨g3, 2, none⟩ = some (.string a0_2) := (bc BG6.out 2).trans rfl)
            | (at_lookup; refine wpList_lookup_set _ rfl _ _ 113 rfl law Try.underlying113 Try.underlying3 Try.underlying4 (Try.zeroValue4 _) w4.heap.size n s rfl S6.out v.f0 rfl HWV.out false HC1.out ?_)
            | (go_at_call 81; refine (impl_FreeAt.calls k a0_0 a0_1 a0_2 v.f1 _ _ HF.out).mono ?_; rintro e w7 ⟨rfl, hb7⟩; have HB7 := Aside0.mk (below_step HB6.out hb7); have S7 := Aside0.mk (S6.out.below hb7); have BK7 := Aside0.mk (bb BK6.out hb7); have BG7 := Aside0.mk (bb BG6.out hb7); clear hb7; clear h60 h61 h62 h63 q60 q61 q62; have h70 : w7.cell? ⟨g5, 0, none⟩ = some (.int .i64 v.f0) := (bc BK7.out 0).trans rfl; have h71 : w7.cell? ⟨g5, 1, none⟩ = some (.int .i64 v.f1) := (bc BK7.out 1).trans rfl; have h72 : w7.cell? ⟨g5, 2, none⟩ = some (.int .i64 v.f2) := (bc BK7.out 2).trans rfl; have h73 : w7.cell? ⟨g5, 3, none⟩ = some (.bool v.f3) := (bc BK7.out 3).trans rfl; have q70 : w7.cell? ⟨g3, 0, none⟩ = some (.int .i64 a0_0) := (bc BG7.out 0).trans rfl; have q71 : w7.cell? ⟨g3, 1, none⟩ = some (.int .i64 a0_1) := (bc BG7.out 1).trans rfl; have q72 : w7.cell? ⟨g3, 2, none⟩ = some (.string a0_2) := (bc BG7.out 2).trans rfl)
            | (at_mapUpdate; refine wpList_store_set _ rfl _ _ _ 113 rfl law Try.underlying113 Try.underlying3 Try.underlying4 w4.heap.size n s HNM.out rfl S7.out v.f0 rfl HWV.out rfl ?_; intro w9 hset9 hg9; have S9 := Aside0.mk hset9; have HB9 := Aside0.mk (HB7.out.grown hg9 HB7.out.size (fun j hj => by cases hj; exact HB4.out.size)); have WS9 : Aside0 (w4.heap.size < w9.heap.size) := ⟨S9.out.lt⟩; have BG9 := Aside0.mk (blk_grown BG7.out hg9 (by have h1 := NE3.out; intro e; injection e with e; omega)); clear hset9 hg9))
          go_roundg (l0_7.length - (x + 1))
          case measure => have := HLT.out; have := HX.out; omega
          case rel => exact ⟨x + 1, n + 1, v.f0 :: s, by first | rfl | (rw [HWR.out]) | simp [HWR.out], ⟨by have := HLT.out; have := HX.out; omega⟩, HB9, WS9, S9, BG9, HGN⟩
        rw [if_neg hto] at hgo
        have ht1 : (v.f2 != -1) = true := by simpa using hto
        have ht2 : (v.f2 == -1) = false := by simpa using hto
        clear hto
        obtain ⟨b2, hb2, hgo⟩ := Option.bind_eq_some_iff.1 hgo
        have HF2 := Aside0.mk hb2
        clear hb2
        cases b2 with
        | false =>
          rw [if_neg (by decide)] at hgo
          obtain rfl := Option.some.inj hgo
          clear hgo
          go_wp2_with (first
            | ((with_reducible refine gate_dst (N := 6) rfl ?_); refine box_event ?hg (N := 6) ?hd (cs := #[.int .i64 0, .int .i64 0, .int .i64 0, .bool false]) (t := 84) ?hr ?_; (case hd => rfl); (case hg => rfl); (case hr => first | (go_simp; done) | (go_simp; rfl)); intro g5 hg5 w5 hbox5 hb5; replace hx0 := (hb5.cell (World.block_lt_of_cell? wr _ hx0)).trans hx0; replace hx1 := (hb5.cell (World.block_lt_of_cell? wr _ hx1)).trans hx1; replace hx2 := (hb5.cell (World.block_lt_of_cell? wr _ hx2)).trans hx2; replace hx3 := (hb5.cell (World.block_lt_of_cell? wr _ hx3)).trans hx3; have HB5 := Aside0.mk (below_step HB.out hb5); have S5 := Aside0.mk (HSET.out.below hb5); have BG5 := Aside0.mk (bb HBG.out hb5); have BK5 := Aside0.mk hbox5; have G5 : Aside0 (w4.heap.size < g5) := ⟨by rw [hg5]; exact HS.out⟩; have GW5 : Aside0 (w.heap.size ≤ g5) := ⟨by have := HB4.out.size; have := G5.out; omega⟩; have N53 : Aside0 (g3 ≠ g5) := ⟨by have := NE3.out; have := G5.out; omega⟩; clear hb5 hbox5 hg5)
            | ((with_reducible refine gate_store (t := 84) (p := 6) rfl ?_); refine store_event (t := 84) (p := 6) (v := ?vo_w64) (w1 := (((w5.setCell ⟨g5, 0, none⟩ (.int .i64 v.f0)).setCell ⟨g5, 1, none⟩ (.int .i64 v.f1)).setCell ⟨g5, 2, none⟩ (.int .i64 v.f2)).setCell ⟨g5, 3, none⟩ (.bool v.f3)) ?hg ?ho ?hn ?hr ?_; (case ho => rfl); (case hg => rfl); (case hn => rfl); (case hr => exact Go.Proofs.Ytfinjkjnoobbjaa.MyHof.exec_store_run [.int .i64 v.f0, .int .i64 v.f1, .int .i64 v.f2, .bool v.f3] rfl rfl rfl BK5.out rfl (by kernel_rfl) (by simp) rfl rfl); intro w6 hw6; have HB6 : Aside0 (Below w.heap.size w w6) := ⟨by rw [hw6]; exact below_set4 HB5.out GW5.out⟩; have BK6 : Aside0 (w6.heap[g5]? = some (.cells #[.int .i64 v.f0, .int .i64 v.f1, .int .i64 v.f2, .bool v.f3] 84 (0, 0))) := ⟨by rw [hw6]; exact blk_set4 BK5.out⟩; have S6 : Aside0 (SetAt Try.prog 3 4 w6 w4.heap.size n s) := ⟨by rw [hw6]; exact S5.out.far (heap_far4 (Nat.ne_of_lt G5.out))⟩; have BG6 : Aside0 (w6.heap[g3]? = some (.cells #[.int .i64 a0_0, .int .i64 a0_1, .string a0_2] 27 (0, 0))) := ⟨by rw [hw6]; exact (heap_far4 N53.out).trans BG5.out⟩; clear hw6 hx0 hx1 hx2 hx3; have h60 : w6.cell? ⟨g5, 0, none⟩ = some (.int .i64 v.f0) := (bc BK6.out 0).trans rfl; have h61 : w6.cell? ⟨g5, 1, none⟩ = some (.int .i64 v.f1) := (bc BK6.out 1).trans rfl; have h62 : w6.cell? ⟨g5, 2, none⟩ = some (.int .i64 v.f2) := (bc BK6.out 2).trans rfl; have h63 : w6.cell? ⟨g5, 3, none⟩ = some (.bool v.f3) := (bc BK6.out 3).trans rfl; have q60 : w6.cell? ⟨g3, 0, none⟩ = some (.int .i64 a0_0) := (bc BG6.out 0).trans rfl; have q61 : w6.cell? ⟨g3, 1, none⟩ = some (.int .i64 a0_1) := (bc BG6.out 1).trans rfl; have q62 : w6.cell? ⟨g3, 2, none⟩ = some (.string a0_2) := (bc BG6.out 2).trans rfl)
            | (at_lookup; refine wpList_lookup_set _ rfl _ _ 113 rfl law Try.underlying113 Try.underlying3 Try.underlying4 (Try.zeroValue4 _) w4.heap.size n s rfl S6.out v.f0 rfl HWV.out false HC1.out ?_)
            | (go_at_call 81; refine (impl_FreeAt.calls k a0_0 a0_1 a0_2 v.f1 _ _ HF.out).mono ?_; rintro e w7 ⟨rfl, hb7⟩; have HB7 := Aside0.mk (below_step HB6.out hb7); have S7 := Aside0.mk (S6.out.below hb7); have BK7 := Aside0.mk (bb BK6.out hb7); have BG7 := Aside0.mk (bb BG6.out hb7); clear hb7; clear h60 h61 h62 h63 q60 q61 q62; have h70 : w7.cell? ⟨g5, 0, none⟩ = some (.int .i64 v.f0) := (bc BK7.out 0).trans rfl; have h71 : w7.cell? ⟨g5, 1, none⟩ = some (.int .i64 v.f1) := (bc BK7.out 1).trans rfl; have h72 : w7.cell? ⟨g5, 2, none⟩ = some (.int .i64 v.f2) := (bc BK7.out 2).trans rfl; have h73 : w7.cell? ⟨g5, 3, none⟩ = some (.bool v.f3) := (bc BK7.out 3).trans rfl; have q70 : w7.cell? ⟨g3, 0, none⟩ = some (.int .i64 a0_0) := (bc BG7.out 0).trans rfl; have q71 : w7.cell? ⟨g3, 1, none⟩ = some (.int .i64 a0_1) := (bc BG7.out 1).trans rfl; have q72 : w7.cell? ⟨g3, 2, none⟩ = some (.string a0_2) := (bc BG7.out 2).trans rfl)
            | (go_at_call 82; refine (impl_Beside.calls k a0_0 a0_1 a0_2 v.f1 v.f2 _ _ HF2.out).mono ?_; rintro e w8 ⟨rfl, hb8⟩; have HB8 := Aside0.mk (below_step HB7.out hb8); have S8 := Aside0.mk (S7.out.below hb8); have BK8 := Aside0.mk (bb BK7.out hb8); have BG8 := Aside0.mk (bb BG7.out hb8); clear hb8; clear h70 h71 h72 h73 q70 q71 q72; have h80 : w8.cell? ⟨g5, 0, none⟩ = some (.int .i64 v.f0) := (bc BK8.out 0).trans rfl; have h81 : w8.cell? ⟨g5, 1, none⟩ = some (.int .i64 v.f1) := (bc BK8.out 1).trans rfl; have h82 : w8.cell? ⟨g5, 2, none⟩ = some (.int .i64 v.f2) := (bc BK8.out 2).trans rfl; have h83 : w8.cell? ⟨g5, 3, none⟩ = some (.bool v.f3) := (bc BK8.out 3).trans rfl; have q80 : w8.cell? ⟨g3, 0, none⟩ = some (.int .i64 a0_0) := (bc BG8.out 0).trans rfl; have q81 : w8.cell? ⟨g3, 1, none⟩ = some (.int .i64 a0_1) := (bc BG8.out 1).trans rfl; have q82 : w8.cell? ⟨g3, 2, none⟩ = some (.string a0_2) := (bc BG8.out 2).trans rfl))
          go_ret
          exact ⟨rfl, HB8.out⟩
        | true =>
          rw [if_pos rfl] at hgo
          have HGN := Aside0.mk hgo
          clear hgo
          go_wp2_with (first
            | ((with_reducible refine gate_dst (N := 6) rfl ?_); refine box_event ?hg (N := 6) ?hd (cs := #[.int .i64 0, .int .i64 0, .int .i64 0, .bool false]) (t := 84) ?hr ?_; (case hd => rfl); (case hg => rfl); (case hr => first | (go_simp; done) | (go_simp; rfl)); intro g5 hg5 w5 hbox5 hb5; replace hx0 := (hb5.cell (World.block_lt_of_cell? wr _ hx0)).trans hx0; replace hx1 := (hb5.cell (World.block_lt_of_cell? wr _ hx1)).trans hx1; replace hx2 := (hb5.cell (World.block_lt_of_cell? wr _ hx2)).trans hx2; replace hx3 := (hb5.cell (World.block_lt_of_cell? wr _ hx3)).trans hx3; have HB5 := Aside0.mk (below_step HB.out hb5); have S5 := Aside0.mk (HSET.out.below hb5); have BG5 := Aside0.mk (bb HBG.out hb5); have BK5 := Aside0.mk hbox5; have G5 : Aside0 (w4.heap.size < g5) := ⟨by rw [hg5]; exact HS.out⟩; have GW5 : Aside0 (w.heap.size ≤ g5) := ⟨by have := HB4.out.size; have := G5.out; omega⟩; have N53 : Aside0 (g3 ≠ g5) := ⟨by have := NE3.out; have := G5.out; omega⟩; clear hb5 hbox5 hg5)
            | ((with_reducible refine gate_store (t := 84) (p := 6) rfl ?_); refine store_event (t := 84) (p := 6) (v := ?vo_w65) (w1 := (((w5.setCell ⟨g5, 0, none⟩ (.int .i64 v.f0)).setCell ⟨g5, 1, none⟩ (.int .i64 v.f1)).setCell ⟨g5, 2, none⟩ (.int .i64 v.f2)).setCell ⟨g5, 3, none⟩ (.bool v.f3)) ?hg ?ho ?hn ?hr ?_; (case ho => rfl); (case hg => rfl); (case hn => rfl); (case hr => exact Go.Proofs.Ytfinjkjnoobbjaa.MyHof.exec_store_run [.int .i64 v.f0, .int .i64 v.f1, .int .i64 v.f2, .bool v.f3] rfl rfl rfl BK5.out rfl (by kernel_rfl) (by simp) rfl rfl); intro w6 hw6; have HB6 : Aside0 (Below w.heap.size w w6) := ⟨by rw [hw6]; exact below_set4 HB5.out GW5.out⟩; have BK6 : Aside0 (w6.heap[g5]? = some (.cells #[.int .i64 v.f0, .int .i64 v.f1, .int .i64 v.f2, .bool v.f3] 84 (0, 0))) := ⟨by rw [hw6]; exact blk_set4 BK5.out⟩; have S6 : Aside0 (SetAt Try.prog 3 4 w6 w4.heap.size n s) := ⟨by rw [hw6]; exact S5.out.far (heap_far4 (Nat.ne_of_lt G5.out))⟩; have BG6 : Aside0 (w6.heap[g3]? = some (.cells #[.int .i64 a0_0, .int .i64 a0_1, .string a0_2] 27 (0, 0))) := ⟨by rw [hw6]; exact (heap_far4 N53.out).trans BG5.out⟩; clear hw6 hx0 hx1 hx2 hx3; have h60 : w6.cell? ⟨g5, 0, none⟩ = some (.int .i64 v.f0) := (bc BK6.out 0).trans rfl; have h61 : w6.cell? ⟨g5, 1, none⟩ = some (.int .i64 v.f1) := (bc BK6.out 1).trans rfl; have h62 : w6.cell? ⟨g5, 2, none⟩ = some (.int .i64 v.f2) := (bc BK6.out 2).trans rfl; have h63 : w6.cell? ⟨g5, 3, none⟩ = some (.bool v.f3) := (bc BK6.out 3).trans rfl; have q60 : w6.cell? ⟨g3, 0, none⟩ = some (.int .i64 a0_0) := (bc BG6.out 0).trans rfl; have q61 : w6.cell? ⟨g3, 1, none⟩ = some (.int .i64 a0_1) := (bc BG6.out 1).trans rfl; have q62 : w6.cell? ⟨g3, 2, none⟩ = some (.string a0_2) := (bc BG6.out 2).trans rfl)
            | (at_lookup; refine wpList_lookup_set _ rfl _ _ 113 rfl law Try.underlying113 Try.underlying3 Try.underlying4 (Try.zeroValue4 _) w4.heap.size n s rfl S6.out v.f0 rfl HWV.out false HC1.out ?_)
            | (go_at_call 81; refine (impl_FreeAt.calls k a0_0 a0_1 a0_2 v.f1 _ _ HF.out).mono ?_; rintro e w7 ⟨rfl, hb7⟩; have HB7 := Aside0.mk (below_step HB6.out hb7); have S7 := Aside0.mk (S6.out.below hb7); have BK7 := Aside0.mk (bb BK6.out hb7); have BG7 := Aside0.mk (bb BG6.out hb7); clear hb7; clear h60 h61 h62 h63 q60 q61 q62; have h70 : w7.cell? ⟨g5, 0, none⟩ = some (.int .i64 v.f0) := (bc BK7.out 0).trans rfl; have h71 : w7.cell? ⟨g5, 1, none⟩ = some (.int .i64 v.f1) := (bc BK7.out 1).trans rfl; have h72 : w7.cell? ⟨g5, 2, none⟩ = some (.int .i64 v.f2) := (bc BK7.out 2).trans rfl; have h73 : w7.cell? ⟨g5, 3, none⟩ = some (.bool v.f3) := (bc BK7.out 3).trans rfl; have q70 : w7.cell? ⟨g3, 0, none⟩ = some (.int .i64 a0_0) := (bc BG7.out 0).trans rfl; have q71 : w7.cell? ⟨g3, 1, none⟩ = some (.int .i64 a0_1) := (bc BG7.out 1).trans rfl; have q72 : w7.cell? ⟨g3, 2, none⟩ = some (.string a0_2) := (bc BG7.out 2).trans rfl)
            | (go_at_call 82; refine (impl_Beside.calls k a0_0 a0_1 a0_2 v.f1 v.f2 _ _ HF2.out).mono ?_; rintro e w8 ⟨rfl, hb8⟩; have HB8 := Aside0.mk (below_step HB7.out hb8); have S8 := Aside0.mk (S7.out.below hb8); have BK8 := Aside0.mk (bb BK7.out hb8); have BG8 := Aside0.mk (bb BG7.out hb8); clear hb8; clear h70 h71 h72 h73 q70 q71 q72; have h80 : w8.cell? ⟨g5, 0, none⟩ = some (.int .i64 v.f0) := (bc BK8.out 0).trans rfl; have h81 : w8.cell? ⟨g5, 1, none⟩ = some (.int .i64 v.f1) := (bc BK8.out 1).trans rfl; have h82 : w8.cell? ⟨g5, 2, none⟩ = some (.int .i64 v.f2) := (bc BK8.out 2).trans rfl; have h83 : w8.cell? ⟨g5, 3, none⟩ = some (.bool v.f3) := (bc BK8.out 3).trans rfl; have q80 : w8.cell? ⟨g3, 0, none⟩ = some (.int .i64 a0_0) := (bc BG8.out 0).trans rfl; have q81 : w8.cell? ⟨g3, 1, none⟩ = some (.int .i64 a0_1) := (bc BG8.out 1).trans rfl; have q82 : w8.cell? ⟨g3, 2, none⟩ = some (.string a0_2) := (bc BG8.out 2).trans rfl)
            | (at_mapUpdate; refine wpList_store_set _ rfl _ _ _ 113 rfl law Try.underlying113 Try.underlying3 Try.underlying4 w4.heap.size n s HNM.out rfl S8.out v.f0 rfl HWV.out rfl ?_; intro w9 hset9 hg9; have S9 := Aside0.mk hset9; have HB9 := Aside0.mk (HB8.out.grown hg9 HB8.out.size (fun j hj => by cases hj; exact HB4.out.size)); have WS9 : Aside0 (w4.heap.size < w9.heap.size) := ⟨S9.out.lt⟩; have BG9 := Aside0.mk (blk_grown BG8.out hg9 (by have h1 := NE3.out; intro e; injection e with e; omega)); clear hset9 hg9))
          go_roundg (l0_7.length - (x + 1))
          case measure => have := HLT.out; have := HX.out; omega
          case rel => exact ⟨x + 1, n + 1, v.f0 :: s, by first | rfl | (rw [HWR.out]) | simp [HWR.out], ⟨by have := HLT.out; have := HX.out; omega⟩, HB9, WS9, S9, BG9, HGN⟩

end Go.Proofs.Ytfinjkjnoobbjaa.MFnExactSafeYard
