/- Made by a program of this session (out of the kit's print, with hand-made contracts): what each Go function that the law reaches computes, and that the machine's call does so. -/
import Derived.Test.YtfinjkjnoobbjaaXFnTeamsMyReg
import Derived.Test.YtfinjkjnoobbjaaMFnTeamsx0
import Derived.Test.YtfinjkjnoobbjaaMFnTeamsx1
import Derived.Test.YtfinjkjnoobbjaaMFnTeamsx3
import Derived.Test.YtfinjkjnoobbjaaMFnTeamsx6
import Derived.Test.YtfinjkjnoobbjaaMFnTeamsx7
import Derived.Test.YtfinjkjnoobbjaaMFnTeamsx8
namespace Go.Proofs.Ytfinjkjnoobbjaa.MFnTeams
open Go.RowKit Go.Proofs.YtfinjkjnoobbjaaW.PrintWords Go.Proofs.YtfinjkjnoobbjaaW.PrintLast Go.Proofs.YtfinjkjnoobbjaaW.PrintMore Go.Proofs.Ytfinjkjnoobbjaa.MyReg
attribute [local go_sem] max2_int min2_int max_two min_two max_three min_three max_four min_four   -- for this text's walks alone
set_option linter.unusedVariables false
set_option linter.unusedSimpArgs false

/-! ### spec_l20Right: function 93 -/
mutual
def spec_l20Right.l0 : Nat → List (S84) → List Int → Int → Int → List Int → Int → Int → Int → Int → ByteArray → Option ((List (S84)) × Int × Int)
  | 0, _, _, _, _, _, _, _, _, _, _ => none
  | k + 1, x5, x6, x7, x8, x1000, x1001, x1002, x229000, x229001, x229002 => if x8 < (x6.length : Int) then ((spec_l01Below.f x1000 x1001 x1002 5).bind fun bt240 => (if (x6.length : Int) = 0 then (none) else (if 0 ≤ (Int.tmod (wrap64 ((wrap64 (x8 * 7)) + 3)) (x6.length : Int)) then (if (Int.tmod (wrap64 ((wrap64 (x8 * 7)) + 3)) (x6.length : Int)) < (x6.length : Int) then ((spec_l01Once.f x1000 bt240.2.1 bt240.2.2 4).bind fun bt244 => ((spec_HolderOf.f k x5 (rd x6 (Int.tmod (wrap64 ((wrap64 (x8 * 7)) + 3)) (x6.length : Int)))).bind fun t248 => (if t248 ≥ 0 then (spec_l20Right.l0 k x5 x6 (wrap64 ((wrap64 (x7 + 1)) + bt240.1)) (wrap64 (x8 + 1)) x1000 bt244.2.1 bt244.2.2 x229000 x229001 x229002) else ((spec_Around.f k x229000 x229001 x229002 (rd x6 (Int.tmod (wrap64 ((wrap64 (x8 * 7)) + 3)) (x6.length : Int)))).bind fun t249 => (if (t249.length : Int) > 0 then ((spec_l01Once.f x1000 bt244.2.1 bt244.2.2 4).bind fun bt252 => (spec_l20Right.j1 k x5 x6 (wrap64 ((wrap64 (x7 + 1)) + bt240.1)) x8 t249 bt252.1 x1000 bt252.2.1 bt252.2.2 x229000 x229001 x229002 (wrap64 ((wrap64 (x7 + 1)) + bt240.1)) (rd x6 (Int.tmod (wrap64 ((wrap64 (x8 * 7)) + 3)) (x6.length : Int))) (-1) bt244.1)) else (spec_l20Right.j1 k x5 x6 (wrap64 ((wrap64 (x7 + 1)) + bt240.1)) x8 t249 false x1000 bt244.2.1 bt244.2.2 x229000 x229001 x229002 (wrap64 ((wrap64 (x7 + 1)) + bt240.1)) (rd x6 (Int.tmod (wrap64 ((wrap64 (x8 * 7)) + 3)) (x6.length : Int))) (-1) bt244.1)))))) else (none)) else (none)))) else (some (x5, x1001, x1002))
def spec_l20Right.j1 : Nat → List (S84) → List Int → Int → Int → List Int → Bool → List Int → Int → Int → Int → Int → ByteArray → Int → Int → Int → Bool → Option ((List (S84)) × Int × Int)
  | 0, _, _, _, _, _, _, _, _, _, _, _, _, _, _, _, _ => none
  | k + 1, x5, x6, x7, x8, x10, x57, x1000, x1001, x1002, x229000, x229001, x229002, x248000, x248001, x248002, x248003 => if x57 = true then ((spec_l01Below.f x1000 x1001 x1002 (x10.length : Int)).bind fun bt255 => (if 0 ≤ bt255.1 then (if bt255.1 < (x10.length : Int) then ((spec_HolderOf.f k x5 (rd x10 bt255.1)).bind fun t259 => (if t259 < 0 then ((spec_l03Has.f k x6 (rd x10 bt255.1)).bind fun t260 => (if t260 = true then (if x5.length < 4398046511104 then (spec_l20Right.l0 k (x5 ++ [(⟨x248000, x248001, x248002, x248003⟩ : S84)]) x6 x7 (wrap64 (x8 + 1)) x1000 bt255.2.1 bt255.2.2 x229000 x229001 x229002) else (none)) else (if x5.length < 4398046511104 then (spec_l20Right.l0 k (x5 ++ [(⟨x248000, x248001, rd x10 bt255.1, x248003⟩ : S84)]) x6 x7 (wrap64 (x8 + 1)) x1000 bt255.2.1 bt255.2.2 x229000 x229001 x229002) else (none)))) else (if x5.length < 4398046511104 then (spec_l20Right.l0 k (x5 ++ [(⟨x248000, x248001, x248002, x248003⟩ : S84)]) x6 x7 (wrap64 (x8 + 1)) x1000 bt255.2.1 bt255.2.2 x229000 x229001 x229002) else (none)))) else (none)) else (none))) else (if x5.length < 4398046511104 then (spec_l20Right.l0 k (x5 ++ [(⟨x248000, x248001, x248002, x248003⟩ : S84)]) x6 x7 (wrap64 (x8 + 1)) x1000 x1001 x1002 x229000 x229001 x229002) else (none))
end
def spec_l20Right.f (k : Nat) (s0_0 : List Int) (s0_1 : Int) (s0_2 : Int) (a1_0 : Int) (a1_1 : Int) (a1_2 : ByteArray) : Option ((List (S84)) × Int × Int) := (spec_l01Below.f s0_0 s0_1 s0_2 6).bind fun bt232 => ((spec_l04Some.f k s0_0 bt232.2.1 bt232.2.2 a1_0 a1_1 a1_2 bt232.1).bind fun bt235 => (spec_l20Right.l0 k (([] : List (S84))) bt235.1 0 0 s0_0 bt235.2.1 bt235.2.2 a1_0 a1_1 a1_2))
theorem spec_l20Right.mono_l : ∀ k, (∀ y0 y1 y2 y3 y4 y5 y6 y7 y8 y9, LeO (spec_l20Right.l0 k y0 y1 y2 y3 y4 y5 y6 y7 y8 y9) (spec_l20Right.l0 (k + 1) y0 y1 y2 y3 y4 y5 y6 y7 y8 y9)) ∧ (∀ y0 y1 y2 y3 y4 y5 y6 y7 y8 y9 y10 y11 y12 y13 y14 y15, LeO (spec_l20Right.j1 k y0 y1 y2 y3 y4 y5 y6 y7 y8 y9 y10 y11 y12 y13 y14 y15) (spec_l20Right.j1 (k + 1) y0 y1 y2 y3 y4 y5 y6 y7 y8 y9 y10 y11 y12 y13 y14 y15))
  | 0 => ⟨fun _ _ _ _ _ _ _ _ _ _ r h => by simp [spec_l20Right.l0] at h, fun _ _ _ _ _ _ _ _ _ _ _ _ _ _ _ _ r h => by simp [spec_l20Right.j1] at h⟩
  | k + 1 => by
    obtain ⟨ih0, ih1⟩ := spec_l20Right.mono_l k
    refine ⟨?_, ?_⟩
    · intro y0 y1 y2 y3 y4 y5 y6 y7 y8 y9
      unfold spec_l20Right.l0
      repeat' first
      | (with_reducible exact ih0 _ _ _ _ _ _ _ _ _ _)
      | (with_reducible exact ih1 _ _ _ _ _ _ _ _ _ _ _ _ _ _ _ _)
      | (with_reducible exact spec_Around.mono _ _ _ _ _)
      | (with_reducible exact spec_HolderOf.mono _ _ _)
      | (with_reducible exact spec_l03Has.mono _ _ _)
      | (with_reducible exact spec_l04Some.mono _ _ _ _ _ _ _ _)
      | (with_reducible exact LeO.refl _)
      | (with_reducible exact LeO.none _)
      | (with_reducible refine LeO.ite ?_ ?_)
      | (with_reducible refine LeO.bind ?_ (fun _ => ?_))
      | exact ih0 _ _ _ _ _ _ _ _ _ _
      | exact ih1 _ _ _ _ _ _ _ _ _ _ _ _ _ _ _ _
      | exact spec_Around.mono _ _ _ _ _
      | exact spec_HolderOf.mono _ _ _
      | exact spec_l03Has.mono _ _ _
      | exact spec_l04Some.mono _ _ _ _ _ _ _ _
      | exact LeO.none _
      | refine LeO.ite ?_ ?_
      | refine LeO.bind ?_ (fun _ => ?_)
    · intro y0 y1 y2 y3 y4 y5 y6 y7 y8 y9 y10 y11 y12 y13 y14 y15
      unfold spec_l20Right.j1
      repeat' first
      | (with_reducible exact ih0 _ _ _ _ _ _ _ _ _ _)
      | (with_reducible exact ih1 _ _ _ _ _ _ _ _ _ _ _ _ _ _ _ _)
      | (with_reducible exact spec_Around.mono _ _ _ _ _)
      | (with_reducible exact spec_HolderOf.mono _ _ _)
      | (with_reducible exact spec_l03Has.mono _ _ _)
      | (with_reducible exact spec_l04Some.mono _ _ _ _ _ _ _ _)
      | (with_reducible exact LeO.refl _)
      | (with_reducible exact LeO.none _)
      | (with_reducible refine LeO.ite ?_ ?_)
      | (with_reducible refine LeO.bind ?_ (fun _ => ?_))
      | exact ih0 _ _ _ _ _ _ _ _ _ _
      | exact ih1 _ _ _ _ _ _ _ _ _ _ _ _ _ _ _ _
      | exact spec_Around.mono _ _ _ _ _
      | exact spec_HolderOf.mono _ _ _
      | exact spec_l03Has.mono _ _ _
      | exact spec_l04Some.mono _ _ _ _ _ _ _ _
      | exact LeO.none _
      | refine LeO.ite ?_ ?_
      | refine LeO.bind ?_ (fun _ => ?_)
theorem spec_l20Right.mono : ∀ a0 a1 a2 a3 a4 a5 k, LeO (spec_l20Right.f k a0 a1 a2 a3 a4 a5) (spec_l20Right.f (k + 1) a0 a1 a2 a3 a4 a5) := by
  intro a0 a1 a2 a3 a4 a5 k
  obtain ⟨ih0, ih1⟩ := spec_l20Right.mono_l k
  unfold spec_l20Right.f
  repeat' first
      | (with_reducible exact ih0 _ _ _ _ _ _ _ _ _ _)
      | (with_reducible exact ih1 _ _ _ _ _ _ _ _ _ _ _ _ _ _ _ _)
      | (with_reducible exact spec_Around.mono _ _ _ _ _)
      | (with_reducible exact spec_HolderOf.mono _ _ _)
      | (with_reducible exact spec_l03Has.mono _ _ _)
      | (with_reducible exact spec_l04Some.mono _ _ _ _ _ _ _ _)
      | (with_reducible exact LeO.refl _)
      | (with_reducible exact LeO.none _)
      | (with_reducible refine LeO.ite ?_ ?_)
      | (with_reducible refine LeO.bind ?_ (fun _ => ?_))
      | exact ih0 _ _ _ _ _ _ _ _ _ _
      | exact ih1 _ _ _ _ _ _ _ _ _ _ _ _ _ _ _ _
      | exact spec_Around.mono _ _ _ _ _
      | exact spec_HolderOf.mono _ _ _
      | exact spec_l03Has.mono _ _ _
      | exact spec_l04Some.mono _ _ _ _ _ _ _ _
      | exact LeO.none _
      | refine LeO.ite ?_ ?_
      | refine LeO.bind ?_ (fun _ => ?_)
def spec_l20Right.T8 : Bool × List (List Nat × List Nat) := (true, [([], []), ([], []), ([], []), ([2], [2]), ([3], [3]), ([], []), ([5], [5]), ([4, 6], [4, 6]), ([1, 7], [1, 7]), ([8], [8]), ([], []), ([10], [10]), ([0, 9, 11], [0, 9, 11]), ([], []), ([13, 12, 11, 0, 1, 2, 3, 4, 5, 6, 7, 8, 9, 10, 11, 12, 13], [12, 13])])
def spec_l20Right.B8 : List Nat := [0, 0, 0, 4, 12, 0, 32, 124, 254, 510, 0, 1024, 4095, 0, 16383]
theorem spec_l20Right.tab8 : rtab .any (opsOf Try.f93 8) = spec_l20Right.T8 := by kernel_rfl
theorem spec_l20Right.bits8 : waitsOk spec_l20Right.T8.2 spec_l20Right.B8 = true := by kernel_rfl
set_option maxHeartbeats 8000000 in
set_option maxRecDepth 100000 in
theorem spec_l20Right.calls (k : Nat) (g : Nat) (s0_0 : List Int) (s0_1 : Int) (s0_2 : Int) (a1_0 : Int) (a1_1 : Int) (a1_2 : ByteArray) (r1 : List (S84)) (r2 : Int) (r3 : Int) (w0 w : World) (hI : IsS169 w0 w g s0_0 s0_1 s0_2) (hB : Below w0.heap.size w0 w) (h : spec_l20Right.f k s0_0 s0_1 s0_2 a1_0 a1_1 a1_2 = some (r1, r2, r3)) :
    Calls Try.prog 93 #[.pointer (some ⟨g, 0, none⟩), .agg #[.int .i64 a1_0, .int .i64 a1_1, .string a1_2]] w fun e w' => ∃ v0_ : Value, e = .returned (v0_) ∧ Kd.R k84 84 w' w.heap.size (fun _ => True) v0_ r1 ∧ IsS169 w0 w' g s0_0 r2 r3 ∧ Below w0.heap.size w0 w' ∧ KeepBut w w' g none := by
  have hu27 := Try.underlying27
  have hu84 := Try.underlying84
  have HI0 := Aside0.mk hI
  have HK := Aside0.mk (KeepBut.refl w g none)
  have HL := Aside0.mk hB.size
  clear hI
  have HW0 := Aside0.mk hB.size
  have HB := Aside0.mk hB
  clear hB
  have H : ((spec_l01Below.f s0_0 s0_1 s0_2 6).bind fun bt232 => ((spec_l04Some.f k s0_0 bt232.2.1 bt232.2.2 a1_0 a1_1 a1_2 bt232.1).bind fun bt235 => (spec_l20Right.l0 k (([] : List (S84))) bt235.1 0 0 s0_0 bt235.2.1 bt235.2.2 a1_0 a1_1 a1_2))) = some (r1, r2, r3) := h
  clear h
  obtain ⟨y229, hy229⟩ : ∃ y_ : List (S84), y_ = (([] : List (S84))) := ⟨_, rfl⟩
  replace H : ((spec_l01Below.f s0_0 s0_1 s0_2 6).bind fun bt232 => ((spec_l04Some.f k s0_0 bt232.2.1 bt232.2.2 a1_0 a1_1 a1_2 bt232.1).bind fun bt235 => (spec_l20Right.l0 k y229 bt235.1 0 0 s0_0 bt235.2.1 bt235.2.2 a1_0 a1_1 a1_2))) = some (r1, r2, r3) := by first | (rw [hy229]; with_reducible exact H) | (have H2_ := (Option.bind_some _ _).symm.trans H; rw [hy229]; with_reducible exact H2_) | (have H2_ := (Option.bind_some _ _).symm.trans H; with_reducible exact H2_) | with_reducible exact H | (rw [hy229]; exact H) | exact H
  have Ny229 := Aside0.mk hy229
  clear hy229
  replace H := Option.bind_eq_some_iff.mp H
  obtain ⟨⟨t232, t233, t234⟩, A30, H⟩ := H
  replace H : ((spec_l04Some.f k s0_0 t233 t234 a1_0 a1_1 a1_2 t232).bind fun bt235 => (spec_l20Right.l0 k y229 bt235.1 0 0 s0_0 bt235.2.1 bt235.2.2 a1_0 a1_1 a1_2)) = some (r1, r2, r3) := H
  have A3 := Aside0.mk A30
  clear A30
  replace H := Option.bind_eq_some_iff.mp H
  obtain ⟨⟨t235, t238, t239⟩, A40, H⟩ := H
  replace H : (spec_l20Right.l0 k y229 t235 0 0 s0_0 t238 t239 a1_0 a1_1 a1_2) = some (r1, r2, r3) := H
  have A4 := Aside0.mk A40
  clear A40
  have H' := Aside0.mk H
  clear H
  go_enter Try.func93, Try.ntmps93
  try go_wp2_with (first | ((with_reducible refine gate_dst (N := 3) rfl ?_); refine box_event ?hg (N := 3) ?hd (cs := #[.int .i64 a1_0, .int .i64 a1_1, .string a1_2]) (t := 27) ?hr ?_; (case hd => rfl); (case hg => rfl); (case hr => first | (go_simp; done) | (go_simp; rfl)); intro gb228 hg w5 hbox hb; have n0_ := Aside0.mk (IsS169.below (by repeat (first | (with_reducible first | exact HI0.out | apply IsS169.alloc | apply IsS169.drewN | apply IsS169.drew | apply IsS169.set_1 | apply IsS169.set_2) | exact HI0.out)) hb); have n1_ := Aside0.mk (KeepBut.trans (by repeat (first | (with_reducible first | exact HK.out | apply KeepBut.set_ | apply keep_drewN | apply keep_drew | apply keep_alloc) | exact HK.out)) (KeepBut.of_below hb g none) (.inl rfl)); have n2_ := Aside0.mk (below_step (by repeat (first | (with_reducible first | exact HB.out | apply wa | apply wN | apply wd | refine ws ?_ (IsS169.ge HI0.out)) | exact HB.out)) hb); have n3_ := Aside0.mk (hbox); have n4_ := Aside0.mk ((by rw [hg]; exact (keep_size (w := w) (g := g) (row := none) (by repeat (first | (with_reducible first | exact HK.out | apply KeepBut.set_ | apply keep_drewN | apply keep_drew | apply keep_alloc) | exact HK.out))) : w.heap.size ≤ gb228)); have n5_ := Aside0.mk ((Nat.le_trans HW0.out (by rw [hg]; exact (keep_size (w := w) (g := g) (row := none) (by repeat (first | (with_reducible first | exact HK.out | apply KeepBut.set_ | apply keep_drewN | apply keep_drew | apply keep_alloc) | exact HK.out))) : w.heap.size ≤ gb228) : w0.heap.size ≤ gb228)); have n6_ := Aside0.mk ((by rw [hg]; exact Nat.ne_of_lt (IsS169.lt (show IsS169 w0 _ g s0_0 s0_1 s0_2 from by repeat (first | (with_reducible first | exact HI0.out | apply IsS169.alloc | apply IsS169.drewN | apply IsS169.drew | apply IsS169.set_1 | apply IsS169.set_2) | exact HI0.out))) : g ≠ gb228)); have n7_ := Aside0.mk ((by rw [hg]; exact Nat.ne_of_gt (IsS169.lt (show IsS169 w0 _ g s0_0 s0_1 s0_2 from by repeat (first | (with_reducible first | exact HI0.out | apply IsS169.alloc | apply IsS169.drewN | apply IsS169.drew | apply IsS169.set_1 | apply IsS169.set_2) | exact HI0.out))) : gb228 ≠ g)); clear HI0; clear HK; clear HB; have HI0 := n0_; have HK := n1_; have HB := n2_; have BK228 := n3_; have GW228 := n4_; have GE228 := n5_; have NB0_228 := n6_; have NB228_0 := n7_; clear n0_ n1_ n2_ n3_ n4_ n5_ n6_ n7_; clear hb hbox hg) | ((with_reducible refine gate_dst (N := 12) rfl ?_); refine Kd.R_lit k84 _ 84 ?hg (N := 12) ?hd (xs := ([] : List (S84))) (inner := []) (ok := fun _ => True) (okp := fun _ => True) ?hr ?hp (fun _ hk => hk) trivial (Below.refl _ _) (Nat.le_refl _) (by simp) ?_; (case hd => rfl); (case hg => rfl); (case hr => first | (go_simp; done) | (go_simp; rfl)); (case hp => exact (Reps.none _ _)); intro v230 w6 ho7 hb hg_ hnew_; clear hg_ hnew_; (first | rw [← Ny229.out] at ho7 | (simp only [Int.reduceToNat] at ho7; rw [← Ny229.out] at ho7)); have n0_ := Aside0.mk (Kd.R_lower ho7 (keep_size (w := w) (g := g) (row := none) (by repeat (first | (with_reducible first | exact HK.out | apply KeepBut.set_ | apply keep_drewN | apply keep_drew | apply keep_alloc | refine keep_far ?_ GW228.out _) | exact HK.out)))); have n1_ := Aside0.mk (IsS169.below (by repeat (first | (with_reducible first | exact HI0.out | apply IsS169.alloc | apply IsS169.drewN | apply IsS169.drew | apply IsS169.set_1 | apply IsS169.set_2 | refine IsS169.far ?_ NB0_228.out _) | exact HI0.out)) hb); have n2_ := Aside0.mk (bb (g := gb228) (by first | (with_reducible exact BK228.out) | (with_reducible exact bN BK228.out _) | (with_reducible exact bd BK228.out) | ((with_reducible repeat first | apply bN | apply bd | apply ba); exact BK228.out)) hb); have n3_ := Aside0.mk (KeepBut.trans (by repeat (first | (with_reducible first | exact HK.out | apply KeepBut.set_ | apply keep_drewN | apply keep_drew | apply keep_alloc | refine keep_far ?_ GW228.out _) | exact HK.out)) (KeepBut.of_below hb g none) (.inl rfl)); have n4_ := Aside0.mk (below_step (by repeat (first | (with_reducible first | exact HB.out | apply wa | apply wN | apply wd | refine ws ?_ (IsS169.ge HI0.out) | refine ws ?_ GE228.out) | exact HB.out)) hb); clear HI0; clear BK228; clear HK; clear HB; have HO231 := n0_; have HI0 := n1_; have BK228 := n2_; have HK := n3_; have HB := n4_; clear n0_ n1_ n2_ n3_ n4_; clear hb ho7))
  have n0_ := Aside0.mk (Kd.Rd HO231.out)
  have n1_ := Aside0.mk (bd BK228.out)
  have n2_ := Aside0.mk (IsS169.drew HI0.out)
  have n3_ := Aside0.mk (keep_drew HK.out)
  have n4_ := Aside0.mk (wd HB.out)
  clear HO231
  clear BK228
  clear HI0
  clear HK
  clear HB
  have HO231 := n0_
  have BK228 := n1_
  have HI0 := n2_
  have HK := n3_
  have HB := n4_
  clear n0_ n1_ n2_ n3_ n4_
  refine start_ (n := 6) (S := fun w' => w'.cell? ⟨gb228, 0, none⟩ = some (.int .i64 a1_0) ∧ w'.cell? ⟨gb228, 1, none⟩ = some (.int .i64 a1_1) ∧ w'.cell? ⟨gb228, 2, none⟩ = some (.string a1_2)) (ds := []) #[false, false, false, false, false, false] (by kernel_rfl) rfl rfl ⟨(bc BK228.out 0).trans rfl, (bc BK228.out 1).trans rfl, (bc BK228.out 2).trans rfl⟩ (fun hHeld => ?_)
  generalize w6.drew = w8 at HO231 BK228 HI0 HK HB hHeld ⊢
  refine pure_ (i := 0) (N := some 13) (v := ?_) (a' := ?_) #[true, false, false, false, false, false] rfl rfl (by kernel_rfl) (fun _ _ _ h => h) (Or.inl ⟨by rfl, ?_⟩) ?_ ?_
  rotate_left
  · intro w'
    go_simp
    with_reducible rfl
  rotate_left
  · simp only [Act.put, List.setIfInBounds_toArray, List.set_cons_zero, List.set_cons_succ, i64_w, i32_w]
    rfl
  refine pure_ (i := 2) (N := some 15) (v := ?_) (a' := ?_) #[true, false, true, false, false, false] rfl rfl (by kernel_rfl) (fun _ _ _ h => h) (Or.inl ⟨by rfl, ?_⟩) ?_ ?_
  rotate_left
  · intro w'
    go_simp
    with_reducible rfl
  rotate_left
  · simp only [Act.put, List.setIfInBounds_toArray, List.set_cons_zero, List.set_cons_succ, i64_w, i32_w]
    rfl
  refine take_ (i := 1) (N := some 14) (v := ?_) (a' := ?_) #[true, true, true, false, false, false] rfl rfl (by kernel_rfl) (fun _ _ _ h => h) (Or.inl ⟨by rfl, ?_⟩) hHeld ?_ ?_
  rotate_left
  · rintro w' ⟨s0, s1, s2⟩
    go_simp
    with_reducible rfl
  rotate_left
  · simp only [Act.put, List.setIfInBounds_toArray, List.set_cons_zero, List.set_cons_succ, i64_w, i32_w]
    rfl
  refine one_ (i := 3) (N := some 16) #[true, true, true, true, false, false] rfl rfl (by kernel_rfl) (by decide) (fun K hK => ?_)
  refine goes_ Try.func130 (by kernel_rfl) rfl #[.pointer (some ⟨g, 0, none⟩), .int .i64 6] (by rfl) rfl rfl (by (try simp only [List.map_toArray, List.map_cons, List.map_nil]); first | done | rfl | (simp only [List.length_drop, List.length_take]; rfl)) ?_
  with_reducible refine (spec_l01Below.calls g s0_0 s0_1 s0_2 6 t232 t233 t234 w0 _ ?side1 ?side2 A3.out).mono ?_
  (case side1 => repeat (first | (with_reducible first | exact HI0.out | apply IsS169.alloc | apply IsS169.drewN | apply IsS169.drew | apply IsS169.set_1 | apply IsS169.set_2 | refine IsS169.far ?_ NB0_228.out _) | exact HI0.out))
  (case side2 => repeat (first | (with_reducible first | exact HB.out | apply wa | apply wN | apply wd | refine ws ?_ (IsS169.ge HI0.out) | refine ws ?_ GE228.out) | exact HB.out))
  rintro e w9 ⟨rfl, hi, hb, hk⟩
  refine ⟨_, rfl, ?_⟩
  have n0_ := Aside0.mk (KeepBut.blk hk (g' := gb228) (by (with_reducible repeat first | apply bN | apply bd | apply ba); exact BK228.out) NB228_0.out (by simp))
  have n1_ := Aside0.mk (Kd.R_mono (Kd.R_keep (IsS169.apart (show IsS169 w0 _ g s0_0 s0_1 s0_2 from by repeat (first | (with_reducible first | exact HI0.out | apply IsS169.alloc | apply IsS169.drewN | apply IsS169.drew | apply IsS169.set_1 | apply IsS169.set_2 | refine IsS169.far ?_ NB0_228.out _) | exact HI0.out)) (by (with_reducible repeat (first | apply Kd.Ra | apply Kd.Rn | apply Kd.Rd)); exact HO231.out) (by decide)) hk (fun _ h => h.2)) (fun _ h => h.1))
  have n2_ := Aside0.mk (KeepBut.trans (by repeat (first | (with_reducible first | exact HK.out | apply KeepBut.set_ | apply keep_drewN | apply keep_drew | apply keep_alloc | refine keep_far ?_ GW228.out _) | exact HK.out)) hk (.inl rfl))
  have n3_ := Aside0.mk (hb)
  have n4_ := Aside0.mk (hi)
  clear BK228
  clear HO231
  clear HK
  clear HB
  clear HI0
  have BK228 := n0_
  have HO231 := n1_
  have HK := n2_
  have HB := n3_
  have HI0 := n4_
  clear n0_ n1_ n2_ n3_ n4_
  (try clear hb)
  (try clear hb2)
  (try clear hk)
  (try clear hi)
  refine hK.out _ _ ⟨(bc BK228.out 0).trans rfl, (bc BK228.out 1).trans rfl, (bc BK228.out 2).trans rfl⟩ (fun hHeld => ?_)
  clear hK K
  refine norm_ (a' := ?_) ?_ ?_
  rotate_left
  · show Act.put _ (some 16) _ = _
    simp only [Act.put, List.setIfInBounds_toArray, List.set_cons_zero, List.set_cons_succ, i64_w, i32_w]
    rfl
  refine one_ (i := 4) (N := some 17) #[true, true, true, true, true, false] rfl rfl (by kernel_rfl) (by decide) (fun K hK => ?_)
  refine goes_ Try.func131 (by kernel_rfl) rfl #[.pointer (some ⟨g, 0, none⟩), .agg #[.int .i64 a1_0, .int .i64 a1_1, .string a1_2], .int .i64 t232] (by rfl) rfl rfl (by (try simp only [List.map_toArray, List.map_cons, List.map_nil]); first | done | rfl | (simp only [List.length_drop, List.length_take]; rfl)) ?_
  with_reducible refine (spec_l04Some.calls k g s0_0 t233 t234 a1_0 a1_1 a1_2 t232 t235 t238 t239 w0 _ ?side1 ?side2 A4.out).mono ?_
  (case side1 => repeat (first | (with_reducible first | exact HI0.out | apply IsS169.alloc | apply IsS169.drewN | apply IsS169.drew | apply IsS169.set_1 | apply IsS169.set_2 | refine IsS169.far ?_ NB0_228.out _) | exact HI0.out))
  (case side2 => repeat (first | (with_reducible first | exact HB.out | apply wa | apply wN | apply wd | refine ws ?_ (IsS169.ge HI0.out) | refine ws ?_ GE228.out) | exact HB.out))
  rintro e w10 ⟨v236, rfl, ho0, hi, hb, hk⟩
  refine ⟨_, rfl, ?_⟩
  have n0_ := Aside0.mk (KeepBut.blk hk (g' := gb228) (by (with_reducible repeat first | apply bN | apply bd | apply ba); exact BK228.out) NB228_0.out (by simp))
  have n1_ := Aside0.mk (Kd.R_mono (Kd.R_keep (IsS169.apart (show IsS169 w0 _ g s0_0 t233 t234 from by repeat (first | (with_reducible first | exact HI0.out | apply IsS169.alloc | apply IsS169.drewN | apply IsS169.drew | apply IsS169.set_1 | apply IsS169.set_2 | refine IsS169.far ?_ NB0_228.out _) | exact HI0.out)) (by (with_reducible repeat (first | apply Kd.Ra | apply Kd.Rn | apply Kd.Rd)); exact HO231.out) (by decide)) hk (fun _ h => h.2)) (fun _ h => h.1))
  have n2_ := Aside0.mk (Kd.R_lower ho0 (keep_size (w := w) (g := g) (row := none) (by repeat (first | (with_reducible first | exact HK.out | apply KeepBut.set_ | apply keep_drewN | apply keep_drew | apply keep_alloc | refine keep_far ?_ GW228.out _) | exact HK.out))))
  have n3_ := Aside0.mk (KeepBut.trans (by repeat (first | (with_reducible first | exact HK.out | apply KeepBut.set_ | apply keep_drewN | apply keep_drew | apply keep_alloc | refine keep_far ?_ GW228.out _) | exact HK.out)) hk (.inl rfl))
  have n4_ := Aside0.mk (hb)
  have n5_ := Aside0.mk (hi)
  clear BK228
  clear HO231
  clear HK
  clear HB
  clear HI0
  have BK228 := n0_
  have HO231 := n1_
  have HO237 := n2_
  have HK := n3_
  have HB := n4_
  have HI0 := n5_
  clear n0_ n1_ n2_ n3_ n4_ n5_
  (try clear hb)
  (try clear hb2)
  (try clear hk)
  (try clear hi)
  (try clear ho0)
  refine hK.out _ _ ⟨(bc BK228.out 0).trans rfl, (bc BK228.out 1).trans rfl, (bc BK228.out 2).trans rfl⟩ (fun hHeld => ?_)
  clear hK K
  refine norm_ (a' := ?_) ?_ ?_
  rotate_left
  · show Act.put _ (some 17) _ = _
    simp only [Act.put, List.setIfInBounds_toArray, List.set_cons_zero, List.set_cons_succ, i64_w, i32_w]
    rfl
  refine pure_ (i := 5) (N := some 6) (v := ?_) (a' := ?_) #[true, true, true, true, true, true] rfl rfl (by kernel_rfl) (fun _ _ _ h => h) (Or.inl ⟨by rfl, ?_⟩) ?_ ?_
  rotate_left
  · intro w'
    go_simp
    with_reducible rfl
  rotate_left
  · simp only [Act.put, List.setIfInBounds_toArray, List.set_cons_zero, List.set_cons_succ, i64_w, i32_w]
    rfl
  refine done_ (by kernel_rfl) ?_
  try go_wp2
  go_loopg [5, 7, 8] k (fun kq v5 v7 v8 w' => ∃ (x5_1 : List (S84)) (x7_1 : Int) (x8_1 : Int) (x1001_1 : Int) (x1002_1 : Int), v7 = .int .i64 x7_1 ∧ v8 = .int .i64 x8_1 ∧ Aside0 (spec_l20Right.l0 kq x5_1 t235 x7_1 x8_1 s0_0 x1001_1 x1002_1 a1_0 a1_1 a1_2 = some (r1, r2, r3)) ∧ Aside0 (kq ≤ k) ∧ Aside0 (Kd.R k84 84 w' w.heap.size (fun _ => True) v5 x5_1) ∧ Aside0 (Kd.R (Kd.int .i64) 3 w' w.heap.size (fun _ => True) v236 t235) ∧ Aside0 (w'.heap[gb228]? = some (.cells #[.int .i64 a1_0, .int .i64 a1_1, .string a1_2] 27 (0, 0))) ∧ Aside0 (IsS169 w0 w' g s0_0 x1001_1 x1002_1) ∧ Aside0 (KeepBut w w' g none) ∧ Aside0 (Below w0.heap.size w0 w'))
  case atStart => exact ⟨(y229), (0), (0), (t238), (t239), (by first | rfl | (simp; done) | (simp [*]; done)), (by first | rfl | (simp; done) | (simp [*]; done)), H', ⟨Nat.le_refl _⟩, ⟨by (with_reducible repeat (first | apply Kd.Ra | apply Kd.Rn | apply Kd.Rd)); exact HO231.out⟩, ⟨by (with_reducible repeat (first | apply Kd.Ra | apply Kd.Rn | apply Kd.Rd)); exact HO237.out⟩, ⟨by (with_reducible repeat first | apply bN | apply bd | apply ba); exact BK228.out⟩, ⟨by repeat (first | (with_reducible first | exact HI0.out | apply IsS169.alloc | apply IsS169.drewN | apply IsS169.drew | apply IsS169.set_1 | apply IsS169.set_2 | refine IsS169.far ?_ NB0_228.out _) | exact HI0.out)⟩, ⟨by repeat (first | (with_reducible first | exact HK.out | apply KeepBut.set_ | apply keep_drewN | apply keep_drew | apply keep_alloc | refine keep_far ?_ GW228.out _) | exact HK.out)⟩, ⟨by repeat (first | (with_reducible first | exact HB.out | apply wa | apply wN | apply wd | refine ws ?_ (IsS169.ge HI0.out) | refine ws ?_ GE228.out) | exact HB.out)⟩⟩
  case round =>
    clear H'
    try clear c1
    try clear p2
    try clear c9
    obtain ⟨x5_1, x7_1, x8_1, x1001_1, x1002_1, rfl, rfl, HA, HK1, HO_5, HO_6, BK228, HI0, HK, HB⟩ := hrel
    cases gk with
    | zero => exact absurd HA.out (by simp [spec_l20Right.l0])
    | succ k1 =>
      have H := HA.out
      clear HA
      simp only [spec_l20Right.l0] at H
      by_cases c11 : x8_1 < (t235.length : Int)
      rotate_left
      · rw [if_neg c11] at H
        have c11b0 : decide (x8_1 < (t235.length : Int)) = false := decide_eq_false c11
        clear c11
        simp only [Option.some.injEq, Prod.mk.injEq] at H
        obtain ⟨rfl, rfl, rfl⟩ := H
        obtain ⟨Ao92, co92, eo92⟩ := Kd.R_slice HO_6.out
        subst eo92
        go_wp2
        go_ret
        exact ⟨_, by first | rfl | (simp [errW_none, errW_some] <;> rfl) | (simp [*, errW_none, errW_some] <;> rfl), by (with_reducible repeat (first | apply Kd.Ra | apply Kd.Rn | apply Kd.Rd)); exact HO_5.out, by repeat (first | (with_reducible first | exact HI0.out | apply IsS169.alloc | apply IsS169.drewN | apply IsS169.drew | apply IsS169.set_1 | apply IsS169.set_2 | refine IsS169.far ?_ NB0_228.out _) | exact HI0.out), by repeat (first | (with_reducible first | exact HB.out | apply wa | apply wN | apply wd | refine ws ?_ (IsS169.ge HI0.out) | refine ws ?_ GE228.out) | exact HB.out), by repeat (first | (with_reducible first | exact HK.out | apply KeepBut.set_ | apply keep_drewN | apply keep_drew | apply keep_alloc | refine keep_far ?_ GW228.out _) | exact HK.out)⟩
      rw [if_pos c11] at H
      have c11b0 : decide (x8_1 < (t235.length : Int)) = true := decide_eq_true c11
      clear c11
      replace H := Option.bind_eq_some_iff.mp H
      obtain ⟨⟨t240, t241, t242⟩, A120, H⟩ := H
      replace H : (if (t235.length : Int) = 0 then (none) else (if 0 ≤ (Int.tmod (wrap64 ((wrap64 (x8_1 * 7)) + 3)) (t235.length : Int)) then (if (Int.tmod (wrap64 ((wrap64 (x8_1 * 7)) + 3)) (t235.length : Int)) < (t235.length : Int) then ((spec_l01Once.f s0_0 t241 t242 4).bind fun bt244 => ((spec_HolderOf.f k1 x5_1 (rd t235 (Int.tmod (wrap64 ((wrap64 (x8_1 * 7)) + 3)) (t235.length : Int)))).bind fun t248 => (if t248 ≥ 0 then (spec_l20Right.l0 k1 x5_1 t235 (wrap64 ((wrap64 (x7_1 + 1)) + t240)) (wrap64 (x8_1 + 1)) s0_0 bt244.2.1 bt244.2.2 a1_0 a1_1 a1_2) else ((spec_Around.f k1 a1_0 a1_1 a1_2 (rd t235 (Int.tmod (wrap64 ((wrap64 (x8_1 * 7)) + 3)) (t235.length : Int)))).bind fun t249 => (if (t249.length : Int) > 0 then ((spec_l01Once.f s0_0 bt244.2.1 bt244.2.2 4).bind fun bt252 => (spec_l20Right.j1 k1 x5_1 t235 (wrap64 ((wrap64 (x7_1 + 1)) + t240)) x8_1 t249 bt252.1 s0_0 bt252.2.1 bt252.2.2 a1_0 a1_1 a1_2 (wrap64 ((wrap64 (x7_1 + 1)) + t240)) (rd t235 (Int.tmod (wrap64 ((wrap64 (x8_1 * 7)) + 3)) (t235.length : Int))) (-1) bt244.1)) else (spec_l20Right.j1 k1 x5_1 t235 (wrap64 ((wrap64 (x7_1 + 1)) + t240)) x8_1 t249 false s0_0 bt244.2.1 bt244.2.2 a1_0 a1_1 a1_2 (wrap64 ((wrap64 (x7_1 + 1)) + t240)) (rd t235 (Int.tmod (wrap64 ((wrap64 (x8_1 * 7)) + 3)) (t235.length : Int))) (-1) bt244.1)))))) else (none)) else (none))) = some (r1, r2, r3) := H
      have A12 := Aside0.mk A120
      clear A120
      by_cases c13 : (t235.length : Int) = 0
      · rw [if_pos c13] at H
        exact absurd H (by simp)
      rw [if_neg c13] at H
      have c13b0 : ((t235.length : Int) == 0) = false := beq_eq_false_iff_ne.mpr c13
      have c13b1 : ((t235.length : Int) != 0) = true := bne_iff_ne.mpr c13
      have c13b2 : ¬ (t235 = []) := fun h_ => c13 (by rw [h_]; rfl)
      obtain ⟨ji14, hji14⟩ : ∃ j_ : Int, (Int.tmod (wrap64 ((wrap64 (x8_1 * 7)) + 3)) (t235.length : Int)) = j_ := ⟨_, rfl⟩
      replace H : (if 0 ≤ (ji14) then (if (ji14) < (t235.length : Int) then ((spec_l01Once.f s0_0 t241 t242 4).bind fun bt244 => ((spec_HolderOf.f k1 x5_1 (rd t235 (ji14))).bind fun t248 => (if t248 ≥ 0 then (spec_l20Right.l0 k1 x5_1 t235 (wrap64 ((wrap64 (x7_1 + 1)) + t240)) (wrap64 (x8_1 + 1)) s0_0 bt244.2.1 bt244.2.2 a1_0 a1_1 a1_2) else ((spec_Around.f k1 a1_0 a1_1 a1_2 (rd t235 (ji14))).bind fun t249 => (if (t249.length : Int) > 0 then ((spec_l01Once.f s0_0 bt244.2.1 bt244.2.2 4).bind fun bt252 => (spec_l20Right.j1 k1 x5_1 t235 (wrap64 ((wrap64 (x7_1 + 1)) + t240)) x8_1 t249 bt252.1 s0_0 bt252.2.1 bt252.2.2 a1_0 a1_1 a1_2 (wrap64 ((wrap64 (x7_1 + 1)) + t240)) (rd t235 (ji14)) (-1) bt244.1)) else (spec_l20Right.j1 k1 x5_1 t235 (wrap64 ((wrap64 (x7_1 + 1)) + t240)) x8_1 t249 false s0_0 bt244.2.1 bt244.2.2 a1_0 a1_1 a1_2 (wrap64 ((wrap64 (x7_1 + 1)) + t240)) (rd t235 (ji14)) (-1) bt244.1)))))) else (none)) else (none)) = some (r1, r2, r3) := by first | (rw [hji14] at H; exact H) | (simp only [hji14] at H ⊢; exact H)
      (try rw [hji14] at A12)
      by_cases c15 : 0 ≤ (ji14)
      rotate_left
      · rw [if_neg c15] at H
        exact absurd H (by simp)
      rw [if_pos c15] at H
      have c15b0 : decide (0 ≤ (ji14)) = true := decide_eq_true c15
      clear c15
      by_cases c16 : (ji14) < (t235.length : Int)
      rotate_left
      · rw [if_neg c16] at H
        exact absurd H (by simp)
      rw [if_pos c16] at H
      have c16b0 : decide ((ji14) < (t235.length : Int)) = true := decide_eq_true c16
      clear c16
      replace H := Option.bind_eq_some_iff.mp H
      obtain ⟨⟨t244, t245, t246⟩, A170, H⟩ := H
      replace H : ((spec_HolderOf.f k1 x5_1 (rd t235 (ji14))).bind fun t248 => (if t248 ≥ 0 then (spec_l20Right.l0 k1 x5_1 t235 (wrap64 ((wrap64 (x7_1 + 1)) + t240)) (wrap64 (x8_1 + 1)) s0_0 t245 t246 a1_0 a1_1 a1_2) else ((spec_Around.f k1 a1_0 a1_1 a1_2 (rd t235 (ji14))).bind fun t249 => (if (t249.length : Int) > 0 then ((spec_l01Once.f s0_0 t245 t246 4).bind fun bt252 => (spec_l20Right.j1 k1 x5_1 t235 (wrap64 ((wrap64 (x7_1 + 1)) + t240)) x8_1 t249 bt252.1 s0_0 bt252.2.1 bt252.2.2 a1_0 a1_1 a1_2 (wrap64 ((wrap64 (x7_1 + 1)) + t240)) (rd t235 (ji14)) (-1) t244)) else (spec_l20Right.j1 k1 x5_1 t235 (wrap64 ((wrap64 (x7_1 + 1)) + t240)) x8_1 t249 false s0_0 t245 t246 a1_0 a1_1 a1_2 (wrap64 ((wrap64 (x7_1 + 1)) + t240)) (rd t235 (ji14)) (-1) t244))))) = some (r1, r2, r3) := H
      have A17 := Aside0.mk A170
      clear A170
      replace H := Option.bind_eq_some_iff.mp H
      obtain ⟨t248, A180, H⟩ := H
      replace H : (if t248 ≥ 0 then (spec_l20Right.l0 k1 x5_1 t235 (wrap64 ((wrap64 (x7_1 + 1)) + t240)) (wrap64 (x8_1 + 1)) s0_0 t245 t246 a1_0 a1_1 a1_2) else ((spec_Around.f k1 a1_0 a1_1 a1_2 (rd t235 (ji14))).bind fun t249 => (if (t249.length : Int) > 0 then ((spec_l01Once.f s0_0 t245 t246 4).bind fun bt252 => (spec_l20Right.j1 k1 x5_1 t235 (wrap64 ((wrap64 (x7_1 + 1)) + t240)) x8_1 t249 bt252.1 s0_0 bt252.2.1 bt252.2.2 a1_0 a1_1 a1_2 (wrap64 ((wrap64 (x7_1 + 1)) + t240)) (rd t235 (ji14)) (-1) t244)) else (spec_l20Right.j1 k1 x5_1 t235 (wrap64 ((wrap64 (x7_1 + 1)) + t240)) x8_1 t249 false s0_0 t245 t246 a1_0 a1_1 a1_2 (wrap64 ((wrap64 (x7_1 + 1)) + t240)) (rd t235 (ji14)) (-1) t244)))) = some (r1, r2, r3) := H
      have A18 := Aside0.mk A180
      clear A180
      by_cases c19 : t248 ≥ 0
      · rw [if_pos c19] at H
        have c19b0 : decide (0 ≤ t248) = true := decide_eq_true c19
        clear c19
        have H' := Aside0.mk H
        clear H
        obtain ⟨Ao20, co20, eo20⟩ := Kd.R_slice HO_6.out
        subst eo20
        try go_wp2_with (first | ((with_reducible refine gate_callee (f := 130) rfl ?_); refine goesL_ (some 27) rfl rfl Try.func130 (by kernel_rfl) rfl #[.pointer (some ⟨g, 0, none⟩), .int .i64 5] rfl (by (try simp only [List.map_toArray, List.map_cons, List.map_nil]); first | done | rfl | (simp only [List.length_drop, List.length_take]; rfl)) ?_; (with_reducible refine (spec_l01Below.calls g s0_0 x1001_1 x1002_1 5 t240 t241 t242 w0 _ ?side1 ?side2 A12.out).mono ?_); (case side1 => repeat (first | (with_reducible first | exact HI0.out | apply IsS169.alloc | apply IsS169.drewN | apply IsS169.drew | apply IsS169.set_1 | apply IsS169.set_2 | refine IsS169.far ?_ NB0_228.out _) | exact HI0.out)); (case side2 => repeat (first | (with_reducible first | exact HB.out | apply wa | apply wN | apply wd | refine ws ?_ (IsS169.ge HI0.out) | refine ws ?_ GE228.out) | exact HB.out)); rintro e w21 ⟨rfl, hi, hb, hk⟩; refine ⟨_, rfl, ?_⟩; have n0_ := Aside0.mk (Kd.R_mono (Kd.R_keep (IsS169.apart (show IsS169 w0 _ g s0_0 x1001_1 x1002_1 from by repeat (first | (with_reducible first | exact HI0.out | apply IsS169.alloc | apply IsS169.drewN | apply IsS169.drew | apply IsS169.set_1 | apply IsS169.set_2 | refine IsS169.far ?_ NB0_228.out _) | exact HI0.out)) (by (with_reducible repeat (first | apply Kd.Ra | apply Kd.Rn | apply Kd.Rd)); exact HO_5.out) (by decide)) hk (fun _ h => h.2)) (fun _ h => h.1)); have n1_ := Aside0.mk (Kd.R_mono (Kd.R_keep (IsS169.apart (show IsS169 w0 _ g s0_0 x1001_1 x1002_1 from by repeat (first | (with_reducible first | exact HI0.out | apply IsS169.alloc | apply IsS169.drewN | apply IsS169.drew | apply IsS169.set_1 | apply IsS169.set_2 | refine IsS169.far ?_ NB0_228.out _) | exact HI0.out)) (by (with_reducible repeat (first | apply Kd.Ra | apply Kd.Rn | apply Kd.Rd)); exact HO_6.out) (by decide)) hk (fun _ h => h.2)) (fun _ h => h.1)); have n2_ := Aside0.mk (KeepBut.blk hk (g' := gb228) (by (with_reducible repeat first | apply bN | apply bd | apply ba); exact BK228.out) NB228_0.out (by simp)); have n3_ := Aside0.mk (KeepBut.trans (by repeat (first | (with_reducible first | exact HK.out | apply KeepBut.set_ | apply keep_drewN | apply keep_drew | apply keep_alloc | refine keep_far ?_ GW228.out _) | exact HK.out)) hk (.inl rfl)); have n4_ := Aside0.mk (hb); have n5_ := Aside0.mk (hi); clear HO_5; clear HO_6; clear BK228; clear HK; clear HB; clear HI0; have HO_5 := n0_; have HO_6 := n1_; have BK228 := n2_; have HK := n3_; have HB := n4_; have HI0 := n5_; clear n0_ n1_ n2_ n3_ n4_ n5_; (try clear hb); (try clear hb2); (try clear hk); (try clear hi)))
        have n0_ := Aside0.mk (Kd.Rd HO_5.out)
        have n1_ := Aside0.mk (Kd.Rd HO_6.out)
        have n2_ := Aside0.mk (bd BK228.out)
        have n3_ := Aside0.mk (IsS169.drew HI0.out)
        have n4_ := Aside0.mk (keep_drew HK.out)
        have n5_ := Aside0.mk (wd HB.out)
        clear HO_5
        clear HO_6
        clear BK228
        clear HI0
        clear HK
        clear HB
        have HO_5 := n0_
        have HO_6 := n1_
        have BK228 := n2_
        have HI0 := n3_
        have HK := n4_
        have HB := n5_
        clear n0_ n1_ n2_ n3_ n4_ n5_
        have p243 : 0 ≤ ((ji14) : Int) := of_decide_eq_true (by first | (with_reducible assumption) | assumption)
        have q243 : (ji14) < (t235.length : Int) := of_decide_eq_true (by first | (with_reducible assumption) | assumption)
        obtain ⟨ad243, e243, hx243_0⟩ := Kd.at_int (Kd.R_reads' HO_6.out).2.2 (ji14) p243 q243
        cases e243
        replace p243 := eq_true p243
        replace q243 := eq_true q243
        refine start_ (n := 15) (S := fun w' => w'.cell? (ad243.add ((ji14)).toNat) = some (.int .i64 (rd t235 (ji14)))) (ds := []) #[false, false, false, false, false, false, false, false, false, false, false, false, false, false, false] (by kernel_rfl) rfl rfl (hx243_0) (fun hHeld => ?_); refine with_tabW spec_l20Right.tab8 spec_l20Right.bits8 (fun HT_ HW_ => ?_)
        generalize w21.drew = w22 at HO_5 HO_6 BK228 HI0 HK HB hx243_0 hHeld ⊢
        refine plan_ [(0, 29, 0), (1, 30, 0), (2, 31, 0), (3, 32, 0), (4, 33, 0), (5, 34, 0), (6, 35, 0), (7, 36, 0), (8, 37, 0), (10, 39, 0), (9, 38, 2)] ?_
        repeat (first | (refine p0_ (v := ?_) (a' := ?_) HT_.out (by rfl) (by rfl) (by rfl) (by kernel_rfl) (by exact fun _ _ _ h => h) (Or.inl ⟨by rfl, ?_⟩) ?_ ?_; rotate_left; (· (intro w'; go_simp; with_reducible rfl)); rotate_left; (· (simp only [Act.put, List.setIfInBounds_toArray, List.set_cons_zero, List.set_cons_succ, i64_w, i32_w]; rfl))) | (refine p2_ (v := ?_) (a' := ?_) HT_.out HW_.out (by rfl) (by rfl) (by rfl) (by kernel_rfl) (by exact fun _ _ _ h => h) (Or.inl ⟨by rfl, ?_⟩) hHeld ?_ ?_; rotate_left; (· (intro w' s0; go_simp; with_reducible rfl)); rotate_left; (· (simp only [Act.put, List.setIfInBounds_toArray, List.set_cons_zero, List.set_cons_succ, i64_w, i32_w]; rfl))))
        with_reducible refine end_ ?_
        refine join_ (σ := Nat) 1 #[true, true, true, true, true, true, true, true, true, true, true, true, true, true, false] (fun s_ => [(40, .bool t244), (9, .pointer (some ⟨s_, 0, none⟩)), (41, .agg #[.int .i64 (wrap64 ((wrap64 (x7_1 + 1)) + t240)), .int .i64 (rd t235 (ji14)), .int .i64 (-1), .bool t244])]) (fun s_ w' => (w'.cell? (ad243.add ((ji14)).toNat) = some (.int .i64 (rd t235 (ji14)))) ∧ (Kd.R k84 84 w' w.heap.size (fun k_ => k_ ≠ s_) u5 x5_1) ∧ (Kd.R (Kd.int .i64) 3 w' w.heap.size (fun _ => True) (.slice (some ad243) t235.length co20) t235) ∧ (w'.heap[gb228]? = some (.cells #[.int .i64 a1_0, .int .i64 a1_1, .string a1_2] 27 (0, 0))) ∧ (w'.heap[s_]? = some (.cells #[.int .i64 0, .int .i64 0, .int .i64 0, .bool false] 84 (0, 0))) ∧ (w.heap.size ≤ s_) ∧ (w0.heap.size ≤ s_) ∧ (g ≠ s_) ∧ (s_ ≠ g) ∧ (gb228 ≠ s_) ∧ (s_ ≠ gb228) ∧ (IsS169 w0 w' g s0_0 t245 t246) ∧ (KeepBut w w' g none) ∧ (Below w0.heap.size w0 w')) ?_ ?_
        rotate_left
        · intro hCont
          refine two_ (i := 11) (j := 13) (Ni := some 40) (Nj := some 9) #[true, true, true, true, true, true, true, true, true, true, true, true, false, false, false] #[true, true, true, true, true, true, true, true, true, true, true, false, false, true, false] rfl rfl rfl rfl (two_of HT_.out (by kernel_rfl)) (by decide) (by decide) (fun K hK => ?_) (fun K hK => ?_)
          · skip
            refine goes_ Try.func132 (by kernel_rfl) rfl #[.pointer (some ⟨g, 0, none⟩), .int .i64 4] (by rfl) rfl rfl (by (try simp only [List.map_toArray, List.map_cons, List.map_nil]); first | done | rfl | (simp only [List.length_drop, List.length_take]; rfl)) ?_
            with_reducible refine (spec_l01Once.calls g s0_0 t241 t242 4 t244 t245 t246 w0 _ ?side1 ?side2 A17.out).mono ?_
            (case side1 => repeat (first | (with_reducible first | exact HI0.out | apply IsS169.alloc | apply IsS169.drewN | apply IsS169.drew | apply IsS169.set_1 | apply IsS169.set_2 | refine IsS169.far ?_ NB0_228.out _) | exact HI0.out))
            (case side2 => repeat (first | (with_reducible first | exact HB.out | apply wa | apply wN | apply wd | refine ws ?_ (IsS169.ge HI0.out) | refine ws ?_ GE228.out) | exact HB.out))
            rintro e w23 ⟨rfl, hi, hb, hk⟩
            have HS0_ := keep_cell hk (hHeld) (by first | (rw [add_block]; exact Kd.own_blk (IsS169.own_ne HI0.out HO_6.out (by decide))) | (show (Addr.add _ _).block ≠ _; rw [add_block]; exact Kd.own_blk (IsS169.own_ne HI0.out HO_6.out (by decide))) | exact Kd.own_blk (IsS169.own_ne HI0.out HO_6.out (by decide)))
            refine ⟨_, rfl, ?_⟩
            have n0_ := Aside0.mk (Kd.R_mono (Kd.R_keep (IsS169.apart (show IsS169 w0 _ g s0_0 t241 t242 from by repeat (first | (with_reducible first | exact HI0.out | apply IsS169.alloc | apply IsS169.drewN | apply IsS169.drew | apply IsS169.set_1 | apply IsS169.set_2 | refine IsS169.far ?_ NB0_228.out _) | exact HI0.out)) (by (with_reducible repeat (first | apply Kd.Ra | apply Kd.Rn | apply Kd.Rd)); exact HO_5.out) (by decide)) hk (fun _ h => h.2)) (fun _ h => h.1))
            have n1_ := Aside0.mk (Kd.R_mono (Kd.R_keep (IsS169.apart (show IsS169 w0 _ g s0_0 t241 t242 from by repeat (first | (with_reducible first | exact HI0.out | apply IsS169.alloc | apply IsS169.drewN | apply IsS169.drew | apply IsS169.set_1 | apply IsS169.set_2 | refine IsS169.far ?_ NB0_228.out _) | exact HI0.out)) (by (with_reducible repeat (first | apply Kd.Ra | apply Kd.Rn | apply Kd.Rd)); exact HO_6.out) (by decide)) hk (fun _ h => h.2)) (fun _ h => h.1))
            have n2_ := Aside0.mk (KeepBut.blk hk (g' := gb228) (by (with_reducible repeat first | apply bN | apply bd | apply ba); exact BK228.out) NB228_0.out (by simp))
            have n3_ := Aside0.mk (KeepBut.trans (by repeat (first | (with_reducible first | exact HK.out | apply KeepBut.set_ | apply keep_drewN | apply keep_drew | apply keep_alloc | refine keep_far ?_ GW228.out _) | exact HK.out)) hk (.inl rfl))
            have n4_ := Aside0.mk (hb)
            have n5_ := Aside0.mk (hi)
            clear HO_5
            clear HO_6
            clear BK228
            clear HK
            clear HB
            clear HI0
            have HO_5 := n0_
            have HO_6 := n1_
            have BK228 := n2_
            have HK := n3_
            have HB := n4_
            have HI0 := n5_
            clear n0_ n1_ n2_ n3_ n4_ n5_
            (try clear hb)
            (try clear hb2)
            (try clear hk)
            (try clear hi)
            refine hK.out _ _ (HS0_) (fun hHeld => ?_)
            clear hK K
            refine norm_ (a' := ?_) ?_ ?_
            rotate_left
            · show Act.put _ (some 40) _ = _
              simp only [Act.put, List.setIfInBounds_toArray, List.set_cons_zero, List.set_cons_succ, i64_w, i32_w]
              rfl
            refine pure_ (i := 12) (N := some 41) (v := ?_) (a' := ?_) #[true, true, true, true, true, true, true, true, true, true, true, true, true, false, false] rfl rfl (any_of HT_.out (by kernel_rfl)) (fun _ _ _ h => h) (Or.inl ⟨by rfl, ?_⟩) ?_ ?_
            rotate_left
            · intro w'
              go_simp
              with_reducible rfl
            rotate_left
            · simp only [Act.put, List.setIfInBounds_toArray, List.set_cons_zero, List.set_cons_succ, i64_w, i32_w]
              rfl
            refine one_ (i := 13) (N := some 9) #[true, true, true, true, true, true, true, true, true, true, true, true, true, true, false] rfl rfl (one_of HT_.out (by kernel_rfl)) (by decide) (fun K hK => ?_)
            refine box_step ?hg (N := 9) ?hd (cs := #[.int .i64 0, .int .i64 0, .int .i64 0, .bool false]) (t := 84) ?hr ?_; (case hd => rfl); (case hg => rfl); (case hr => first | (go_simp; done) | (go_simp; rfl))
            intro gb247 hg w24 hbox hb
            have HS0_ := (hb.cell (World.block_lt_of_cell? _ _ (hHeld))).trans (hHeld)
            have n0_ := Aside0.mk (Kd.Rb (Kd.R_elderB (by (with_reducible repeat (first | apply Kd.Ra | apply Kd.Rn | apply Kd.Rd)); exact HO_5.out) gb247 (Nat.le_of_eq hg.symm)) hb)
            have n1_ := Aside0.mk (Kd.Rb (by (with_reducible repeat (first | apply Kd.Ra | apply Kd.Rn | apply Kd.Rd)); exact HO_6.out) hb)
            have n2_ := Aside0.mk (bb (g := gb228) (by first | (with_reducible exact BK228.out) | (with_reducible exact bN BK228.out _) | (with_reducible exact bd BK228.out) | ((with_reducible repeat first | apply bN | apply bd | apply ba); exact BK228.out)) hb)
            have n3_ := Aside0.mk (IsS169.below (by repeat (first | (with_reducible first | exact HI0.out | apply IsS169.alloc | apply IsS169.drewN | apply IsS169.drew | apply IsS169.set_1 | apply IsS169.set_2 | refine IsS169.far ?_ NB0_228.out _) | exact HI0.out)) hb)
            have n4_ := Aside0.mk (KeepBut.trans (by repeat (first | (with_reducible first | exact HK.out | apply KeepBut.set_ | apply keep_drewN | apply keep_drew | apply keep_alloc | refine keep_far ?_ GW228.out _) | exact HK.out)) (KeepBut.of_below hb g none) (.inl rfl))
            have n5_ := Aside0.mk (below_step (by repeat (first | (with_reducible first | exact HB.out | apply wa | apply wN | apply wd | refine ws ?_ (IsS169.ge HI0.out) | refine ws ?_ GE228.out) | exact HB.out)) hb)
            have n6_ := Aside0.mk (hbox)
            have n7_ := Aside0.mk ((by rw [hg]; exact (keep_size (w := w) (g := g) (row := none) (by repeat (first | (with_reducible first | exact HK.out | apply KeepBut.set_ | apply keep_drewN | apply keep_drew | apply keep_alloc | refine keep_far ?_ GW228.out _) | exact HK.out))) : w.heap.size ≤ gb247))
            have n8_ := Aside0.mk ((Nat.le_trans HW0.out (by rw [hg]; exact (keep_size (w := w) (g := g) (row := none) (by repeat (first | (with_reducible first | exact HK.out | apply KeepBut.set_ | apply keep_drewN | apply keep_drew | apply keep_alloc | refine keep_far ?_ GW228.out _) | exact HK.out))) : w.heap.size ≤ gb247) : w0.heap.size ≤ gb247))
            have n9_ := Aside0.mk ((by rw [hg]; exact Nat.ne_of_lt (blk_lt (g := gb228) (by (with_reducible repeat first | apply bN | apply bd | apply ba); exact BK228.out)) : gb228 ≠ gb247))
            have n10_ := Aside0.mk ((by rw [hg]; exact Nat.ne_of_gt (blk_lt (g := gb228) (by (with_reducible repeat first | apply bN | apply bd | apply ba); exact BK228.out)) : gb247 ≠ gb228))
            have n11_ := Aside0.mk ((by rw [hg]; exact Nat.ne_of_lt (IsS169.lt (show IsS169 w0 _ g s0_0 t245 t246 from by repeat (first | (with_reducible first | exact HI0.out | apply IsS169.alloc | apply IsS169.drewN | apply IsS169.drew | apply IsS169.set_1 | apply IsS169.set_2 | refine IsS169.far ?_ NB0_228.out _) | exact HI0.out))) : g ≠ gb247))
            have n12_ := Aside0.mk ((by rw [hg]; exact Nat.ne_of_gt (IsS169.lt (show IsS169 w0 _ g s0_0 t245 t246 from by repeat (first | (with_reducible first | exact HI0.out | apply IsS169.alloc | apply IsS169.drewN | apply IsS169.drew | apply IsS169.set_1 | apply IsS169.set_2 | refine IsS169.far ?_ NB0_228.out _) | exact HI0.out))) : gb247 ≠ g))
            clear HO_5
            clear HO_6
            clear BK228
            clear HI0
            clear HK
            clear HB
            have HO_5 := n0_
            have HO_6 := n1_
            have BK228 := n2_
            have HI0 := n3_
            have HK := n4_
            have HB := n5_
            have BK247 := n6_
            have GW247 := n7_
            have GE247 := n8_
            have NB228_247 := n9_
            have NB247_228 := n10_
            have NB0_247 := n11_
            have NB247_0 := n12_
            clear n0_ n1_ n2_ n3_ n4_ n5_ n6_ n7_ n8_ n9_ n10_ n11_ n12_
            clear hb hbox hg
            refine hK.out _ _ (HS0_) (fun hHeld => ?_)
            clear hK K
            refine norm_ (a' := ?_) ?_ ?_
            rotate_left
            · show Act.put _ (some 9) _ = _
              simp only [Act.put, List.setIfInBounds_toArray, List.set_cons_zero, List.set_cons_succ, i64_w, i32_w]
              rfl
            exact norm_ (by simp only [putAll, Act.put, List.setIfInBounds_toArray, List.set_cons_zero, List.set_cons_succ]) (hCont (gb247) _ ⟨hHeld, (by (with_reducible repeat (first | apply Kd.Ra | apply Kd.Rn | apply Kd.Rd)); exact Kd.R_mono HO_5.out (fun _ hk => hk.2)), (by (with_reducible repeat (first | apply Kd.Ra | apply Kd.Rn | apply Kd.Rd)); exact HO_6.out), (by (with_reducible repeat first | apply bN | apply bd | apply ba); exact BK228.out), (by (with_reducible repeat first | apply bN | apply bd | apply ba); exact BK247.out), GW247.out, GE247.out, NB0_247.out, NB247_0.out, NB228_247.out, NB247_228.out, (by repeat (first | (with_reducible first | exact HI0.out | apply IsS169.alloc | apply IsS169.drewN | apply IsS169.drew | apply IsS169.set_1 | apply IsS169.set_2 | refine IsS169.far ?_ NB0_228.out _ | refine IsS169.far ?_ NB0_247.out _) | exact HI0.out)), (by repeat (first | (with_reducible first | exact HK.out | apply KeepBut.set_ | apply keep_drewN | apply keep_drew | apply keep_alloc | refine keep_far ?_ GW228.out _ | refine keep_far ?_ GW247.out _) | exact HK.out)), (by repeat (first | (with_reducible first | exact HB.out | apply wa | apply wN | apply wd | refine ws ?_ (IsS169.ge HI0.out) | refine ws ?_ GE228.out | refine ws ?_ GE247.out) | exact HB.out))⟩)
          · skip
            refine box_step ?hg (N := 9) ?hd (cs := #[.int .i64 0, .int .i64 0, .int .i64 0, .bool false]) (t := 84) ?hr ?_; (case hd => rfl); (case hg => rfl); (case hr => first | (go_simp; done) | (go_simp; rfl))
            intro gb247 hg w23 hbox hb
            have HS0_ := (hb.cell (World.block_lt_of_cell? _ _ (hHeld))).trans (hHeld)
            have n0_ := Aside0.mk (Kd.Rb (Kd.R_elderB (by (with_reducible repeat (first | apply Kd.Ra | apply Kd.Rn | apply Kd.Rd)); exact HO_5.out) gb247 (Nat.le_of_eq hg.symm)) hb)
            have n1_ := Aside0.mk (Kd.Rb (by (with_reducible repeat (first | apply Kd.Ra | apply Kd.Rn | apply Kd.Rd)); exact HO_6.out) hb)
            have n2_ := Aside0.mk (bb (g := gb228) (by first | (with_reducible exact BK228.out) | (with_reducible exact bN BK228.out _) | (with_reducible exact bd BK228.out) | ((with_reducible repeat first | apply bN | apply bd | apply ba); exact BK228.out)) hb)
            have n3_ := Aside0.mk (IsS169.below (by repeat (first | (with_reducible first | exact HI0.out | apply IsS169.alloc | apply IsS169.drewN | apply IsS169.drew | apply IsS169.set_1 | apply IsS169.set_2 | refine IsS169.far ?_ NB0_228.out _) | exact HI0.out)) hb)
            have n4_ := Aside0.mk (KeepBut.trans (by repeat (first | (with_reducible first | exact HK.out | apply KeepBut.set_ | apply keep_drewN | apply keep_drew | apply keep_alloc | refine keep_far ?_ GW228.out _) | exact HK.out)) (KeepBut.of_below hb g none) (.inl rfl))
            have n5_ := Aside0.mk (below_step (by repeat (first | (with_reducible first | exact HB.out | apply wa | apply wN | apply wd | refine ws ?_ (IsS169.ge HI0.out) | refine ws ?_ GE228.out) | exact HB.out)) hb)
            have n6_ := Aside0.mk (hbox)
            have n7_ := Aside0.mk ((by rw [hg]; exact (keep_size (w := w) (g := g) (row := none) (by repeat (first | (with_reducible first | exact HK.out | apply KeepBut.set_ | apply keep_drewN | apply keep_drew | apply keep_alloc | refine keep_far ?_ GW228.out _) | exact HK.out))) : w.heap.size ≤ gb247))
            have n8_ := Aside0.mk ((Nat.le_trans HW0.out (by rw [hg]; exact (keep_size (w := w) (g := g) (row := none) (by repeat (first | (with_reducible first | exact HK.out | apply KeepBut.set_ | apply keep_drewN | apply keep_drew | apply keep_alloc | refine keep_far ?_ GW228.out _) | exact HK.out))) : w.heap.size ≤ gb247) : w0.heap.size ≤ gb247))
            have n9_ := Aside0.mk ((by rw [hg]; exact Nat.ne_of_lt (blk_lt (g := gb228) (by (with_reducible repeat first | apply bN | apply bd | apply ba); exact BK228.out)) : gb228 ≠ gb247))
            have n10_ := Aside0.mk ((by rw [hg]; exact Nat.ne_of_gt (blk_lt (g := gb228) (by (with_reducible repeat first | apply bN | apply bd | apply ba); exact BK228.out)) : gb247 ≠ gb228))
            have n11_ := Aside0.mk ((by rw [hg]; exact Nat.ne_of_lt (IsS169.lt (show IsS169 w0 _ g s0_0 t241 t242 from by repeat (first | (with_reducible first | exact HI0.out | apply IsS169.alloc | apply IsS169.drewN | apply IsS169.drew | apply IsS169.set_1 | apply IsS169.set_2 | refine IsS169.far ?_ NB0_228.out _) | exact HI0.out))) : g ≠ gb247))
            have n12_ := Aside0.mk ((by rw [hg]; exact Nat.ne_of_gt (IsS169.lt (show IsS169 w0 _ g s0_0 t241 t242 from by repeat (first | (with_reducible first | exact HI0.out | apply IsS169.alloc | apply IsS169.drewN | apply IsS169.drew | apply IsS169.set_1 | apply IsS169.set_2 | refine IsS169.far ?_ NB0_228.out _) | exact HI0.out))) : gb247 ≠ g))
            clear HO_5
            clear HO_6
            clear BK228
            clear HI0
            clear HK
            clear HB
            have HO_5 := n0_
            have HO_6 := n1_
            have BK228 := n2_
            have HI0 := n3_
            have HK := n4_
            have HB := n5_
            have BK247 := n6_
            have GW247 := n7_
            have GE247 := n8_
            have NB228_247 := n9_
            have NB247_228 := n10_
            have NB0_247 := n11_
            have NB247_0 := n12_
            clear n0_ n1_ n2_ n3_ n4_ n5_ n6_ n7_ n8_ n9_ n10_ n11_ n12_
            clear hb hbox hg
            refine hK.out _ _ (HS0_) (fun hHeld => ?_)
            clear hK K
            refine norm_ (a' := ?_) ?_ ?_
            rotate_left
            · show Act.put _ (some 9) _ = _
              simp only [Act.put, List.setIfInBounds_toArray, List.set_cons_zero, List.set_cons_succ, i64_w, i32_w]
              rfl
            refine one_ (i := 11) (N := some 40) #[true, true, true, true, true, true, true, true, true, true, true, true, false, true, false] rfl rfl (one_of HT_.out (by kernel_rfl)) (by decide) (fun K hK => ?_)
            refine goes_ Try.func132 (by kernel_rfl) rfl #[.pointer (some ⟨g, 0, none⟩), .int .i64 4] (by rfl) rfl rfl (by (try simp only [List.map_toArray, List.map_cons, List.map_nil]); first | done | rfl | (simp only [List.length_drop, List.length_take]; rfl)) ?_
            with_reducible refine (spec_l01Once.calls g s0_0 t241 t242 4 t244 t245 t246 w0 _ ?side1 ?side2 A17.out).mono ?_
            (case side1 => repeat (first | (with_reducible first | exact HI0.out | apply IsS169.alloc | apply IsS169.drewN | apply IsS169.drew | apply IsS169.set_1 | apply IsS169.set_2 | refine IsS169.far ?_ NB0_228.out _ | refine IsS169.far ?_ NB0_247.out _) | exact HI0.out))
            (case side2 => repeat (first | (with_reducible first | exact HB.out | apply wa | apply wN | apply wd | refine ws ?_ (IsS169.ge HI0.out) | refine ws ?_ GE228.out | refine ws ?_ GE247.out) | exact HB.out))
            rintro e w24 ⟨rfl, hi, hb, hk⟩
            have HS0_ := keep_cell hk (hHeld) (by first | (rw [add_block]; exact Kd.own_blk (IsS169.own_ne HI0.out HO_6.out (by decide))) | (show (Addr.add _ _).block ≠ _; rw [add_block]; exact Kd.own_blk (IsS169.own_ne HI0.out HO_6.out (by decide))) | exact Kd.own_blk (IsS169.own_ne HI0.out HO_6.out (by decide)))
            refine ⟨_, rfl, ?_⟩
            have n0_ := Aside0.mk (Kd.R_mono (Kd.R_keep (IsS169.apart (show IsS169 w0 _ g s0_0 t241 t242 from by repeat (first | (with_reducible first | exact HI0.out | apply IsS169.alloc | apply IsS169.drewN | apply IsS169.drew | apply IsS169.set_1 | apply IsS169.set_2 | refine IsS169.far ?_ NB0_228.out _ | refine IsS169.far ?_ NB0_247.out _) | exact HI0.out)) (by (with_reducible repeat (first | apply Kd.Ra | apply Kd.Rn | apply Kd.Rd)); exact HO_5.out) (by decide)) hk (fun _ h => h.2)) (fun _ h => h.1))
            have n1_ := Aside0.mk (Kd.R_mono (Kd.R_keep (IsS169.apart (show IsS169 w0 _ g s0_0 t241 t242 from by repeat (first | (with_reducible first | exact HI0.out | apply IsS169.alloc | apply IsS169.drewN | apply IsS169.drew | apply IsS169.set_1 | apply IsS169.set_2 | refine IsS169.far ?_ NB0_228.out _ | refine IsS169.far ?_ NB0_247.out _) | exact HI0.out)) (by (with_reducible repeat (first | apply Kd.Ra | apply Kd.Rn | apply Kd.Rd)); exact HO_6.out) (by decide)) hk (fun _ h => h.2)) (fun _ h => h.1))
            have n2_ := Aside0.mk (KeepBut.blk hk (g' := gb228) (by (with_reducible repeat first | apply bN | apply bd | apply ba); exact BK228.out) NB228_0.out (by simp))
            have n3_ := Aside0.mk (KeepBut.blk hk (g' := gb247) (by (with_reducible repeat first | apply bN | apply bd | apply ba); exact BK247.out) NB247_0.out (by simp))
            have n4_ := Aside0.mk (KeepBut.trans (by repeat (first | (with_reducible first | exact HK.out | apply KeepBut.set_ | apply keep_drewN | apply keep_drew | apply keep_alloc | refine keep_far ?_ GW228.out _ | refine keep_far ?_ GW247.out _) | exact HK.out)) hk (.inl rfl))
            have n5_ := Aside0.mk (hb)
            have n6_ := Aside0.mk (hi)
            clear HO_5
            clear HO_6
            clear BK228
            clear BK247
            clear HK
            clear HB
            clear HI0
            have HO_5 := n0_
            have HO_6 := n1_
            have BK228 := n2_
            have BK247 := n3_
            have HK := n4_
            have HB := n5_
            have HI0 := n6_
            clear n0_ n1_ n2_ n3_ n4_ n5_ n6_
            (try clear hb)
            (try clear hb2)
            (try clear hk)
            (try clear hi)
            refine hK.out _ _ (HS0_) (fun hHeld => ?_)
            clear hK K
            refine norm_ (a' := ?_) ?_ ?_
            rotate_left
            · show Act.put _ (some 40) _ = _
              simp only [Act.put, List.setIfInBounds_toArray, List.set_cons_zero, List.set_cons_succ, i64_w, i32_w]
              rfl
            refine pure_ (i := 12) (N := some 41) (v := ?_) (a' := ?_) #[true, true, true, true, true, true, true, true, true, true, true, true, true, true, false] rfl rfl (any_of HT_.out (by kernel_rfl)) (fun _ _ _ h => h) (Or.inl ⟨by rfl, ?_⟩) ?_ ?_
            rotate_left
            · intro w'
              go_simp
              with_reducible rfl
            rotate_left
            · simp only [Act.put, List.setIfInBounds_toArray, List.set_cons_zero, List.set_cons_succ, i64_w, i32_w]
              rfl
            exact norm_ (by simp only [putAll, Act.put, List.setIfInBounds_toArray, List.set_cons_zero, List.set_cons_succ]) (hCont (gb247) _ ⟨hHeld, (by (with_reducible repeat (first | apply Kd.Ra | apply Kd.Rn | apply Kd.Rd)); exact Kd.R_mono HO_5.out (fun _ hk => hk.2)), (by (with_reducible repeat (first | apply Kd.Ra | apply Kd.Rn | apply Kd.Rd)); exact HO_6.out), (by (with_reducible repeat first | apply bN | apply bd | apply ba); exact BK228.out), (by (with_reducible repeat first | apply bN | apply bd | apply ba); exact BK247.out), GW247.out, GE247.out, NB0_247.out, NB247_0.out, NB228_247.out, NB247_228.out, (by repeat (first | (with_reducible first | exact HI0.out | apply IsS169.alloc | apply IsS169.drewN | apply IsS169.drew | apply IsS169.set_1 | apply IsS169.set_2 | refine IsS169.far ?_ NB0_228.out _ | refine IsS169.far ?_ NB0_247.out _) | exact HI0.out)), (by repeat (first | (with_reducible first | exact HK.out | apply KeepBut.set_ | apply keep_drewN | apply keep_drew | apply keep_alloc | refine keep_far ?_ GW228.out _ | refine keep_far ?_ GW247.out _) | exact HK.out)), (by repeat (first | (with_reducible first | exact HB.out | apply wa | apply wN | apply wd | refine ws ?_ (IsS169.ge HI0.out) | refine ws ?_ GE228.out | refine ws ?_ GE247.out) | exact HB.out))⟩)
        rintro gb247 w25 ⟨hS_, h0_, h1_, h2_, h3_, h4_, h5_, h6_, h7_, h8_, h9_, h10_, h11_, h12_⟩
        have n0_ : Aside0 (Kd.R k84 84 w25 w.heap.size (fun k_ => k_ ≠ gb247) u5 x5_1) := ⟨h0_⟩
        have n1_ : Aside0 (Kd.R (Kd.int .i64) 3 w25 w.heap.size (fun _ => True) (.slice (some ad243) t235.length co20) t235) := ⟨h1_⟩
        have n2_ : Aside0 (w25.heap[gb228]? = some (.cells #[.int .i64 a1_0, .int .i64 a1_1, .string a1_2] 27 (0, 0))) := ⟨h2_⟩
        have n3_ : Aside0 (w25.heap[gb247]? = some (.cells #[.int .i64 0, .int .i64 0, .int .i64 0, .bool false] 84 (0, 0))) := ⟨h3_⟩
        have n4_ : Aside0 (w.heap.size ≤ gb247) := ⟨h4_⟩
        have n5_ : Aside0 (w0.heap.size ≤ gb247) := ⟨h5_⟩
        have n6_ : Aside0 (g ≠ gb247) := ⟨h6_⟩
        have n7_ : Aside0 (gb247 ≠ g) := ⟨h7_⟩
        have n8_ : Aside0 (gb228 ≠ gb247) := ⟨h8_⟩
        have n9_ : Aside0 (gb247 ≠ gb228) := ⟨h9_⟩
        have n10_ : Aside0 (IsS169 w0 w25 g s0_0 t245 t246) := ⟨h10_⟩
        have n11_ : Aside0 (KeepBut w w25 g none) := ⟨h11_⟩
        have n12_ : Aside0 (Below w0.heap.size w0 w25) := ⟨h12_⟩
        clear HO_5
        clear HO_6
        clear BK228
        clear HI0
        clear HK
        clear HB
        clear h0_ h1_ h2_ h3_ h4_ h5_ h6_ h7_ h8_ h9_ h10_ h11_ h12_
        have HO_5 := n0_
        have HO_6 := n1_
        have BK228 := n2_
        have BK247 := n3_
        have GW247 := n4_
        have GE247 := n5_
        have NB0_247 := n6_
        have NB247_0 := n7_
        have NB228_247 := n8_
        have NB247_228 := n9_
        have HI0 := n10_
        have HK := n11_
        have HB := n12_
        clear n0_ n1_ n2_ n3_ n4_ n5_ n6_ n7_ n8_ n9_ n10_ n11_ n12_
        have hHeld : w25.cell? (ad243.add ((ji14)).toNat) = some (.int .i64 (rd t235 (ji14))) := hS_
        refine norm_ (a' := ?_) ?_ ?_
        rotate_left
        · simp only [putAll, Act.put, List.setIfInBounds_toArray, List.set_cons_zero, List.set_cons_succ]
          rfl
        refine one_ (i := 14) (N := none) #[true, true, true, true, true, true, true, true, true, true, true, true, true, true, true] rfl rfl (one_of HT_.out (by kernel_rfl)) (by decide) (fun K hK => ?_)
        have hs26 : w25.cell? ⟨gb247, 0, none⟩ = some (.int .i64 0) := (bc BK247.out 0).trans rfl
        have hfs26 := bz BK247.out 0
        have hns26_0 := NB228_247.out
        have hms26_0 := NB247_228.out
        have hs27 : w25.cell? ⟨gb247, 1, none⟩ = some (.int .i64 0) := (bc BK247.out 1).trans rfl
        have hfs27 := bz BK247.out 1
        have hns27_0 := NB228_247.out
        have hms27_0 := NB247_228.out
        have hs28 : w25.cell? ⟨gb247, 2, none⟩ = some (.int .i64 0) := (bc BK247.out 2).trans rfl
        have hfs28 := bz BK247.out 2
        have hns28_0 := NB228_247.out
        have hms28_0 := NB247_228.out
        have hs29 : w25.cell? ⟨gb247, 3, none⟩ = some (.bool false) := (bc BK247.out 3).trans rfl
        have hfs29 := bz BK247.out 3
        have hns29_0 := NB228_247.out
        have hms29_0 := NB247_228.out
        refine skip_ (w1 := ?_) (by rfl) rfl ?_ ?_
        rotate_left
        · go_simp
          rfl
        refine hK.out _ _ (((cell_far (p := ⟨gb247, _, none⟩) (by first | exact Kd.own_blk (Kd.R_ne HO_6.out BK247.out (by decide)) | (rw [add_block]; exact Kd.own_blk (Kd.R_ne HO_6.out BK247.out (by decide))) | (show (Addr.add _ _).block ≠ _; rw [add_block]; exact Kd.own_blk (Kd.R_ne HO_6.out BK247.out (by decide))) | (dsimp only; exact Kd.own_blk (Kd.R_ne HO_6.out BK247.out (by decide)))) _).trans (((cell_far (p := ⟨gb247, _, none⟩) (by first | exact Kd.own_blk (Kd.R_ne HO_6.out BK247.out (by decide)) | (rw [add_block]; exact Kd.own_blk (Kd.R_ne HO_6.out BK247.out (by decide))) | (show (Addr.add _ _).block ≠ _; rw [add_block]; exact Kd.own_blk (Kd.R_ne HO_6.out BK247.out (by decide))) | (dsimp only; exact Kd.own_blk (Kd.R_ne HO_6.out BK247.out (by decide)))) _).trans (((cell_far (p := ⟨gb247, _, none⟩) (by first | exact Kd.own_blk (Kd.R_ne HO_6.out BK247.out (by decide)) | (rw [add_block]; exact Kd.own_blk (Kd.R_ne HO_6.out BK247.out (by decide))) | (show (Addr.add _ _).block ≠ _; rw [add_block]; exact Kd.own_blk (Kd.R_ne HO_6.out BK247.out (by decide))) | (dsimp only; exact Kd.own_blk (Kd.R_ne HO_6.out BK247.out (by decide)))) _).trans (((cell_far (p := ⟨gb247, _, none⟩) (by first | exact Kd.own_blk (Kd.R_ne HO_6.out BK247.out (by decide)) | (rw [add_block]; exact Kd.own_blk (Kd.R_ne HO_6.out BK247.out (by decide))) | (show (Addr.add _ _).block ≠ _; rw [add_block]; exact Kd.own_blk (Kd.R_ne HO_6.out BK247.out (by decide))) | (dsimp only; exact Kd.own_blk (Kd.R_ne HO_6.out BK247.out (by decide)))) _).trans (hHeld))))))))) (fun hHeld => ?_)
        clear hK K
        refine done_ (done_of HT_.out (by kernel_rfl)) ?_
        have hnb30 := NB247_228.out
        have hnc30 := NB228_247.out
        have hnb31 := NB247_0.out
        have hnc31 := NB0_247.out
        have hcz32_0 : w25.cell? ⟨gb247, 0, none⟩ = some (.int .i64 0) := (bc BK247.out 0).trans rfl
        have hcz32_1 : w25.cell? ⟨gb247, 1, none⟩ = some (.int .i64 0) := (bc BK247.out 1).trans rfl
        have hcz32_2 : w25.cell? ⟨gb247, 2, none⟩ = some (.int .i64 0) := (bc BK247.out 2).trans rfl
        have hcz32_3 : w25.cell? ⟨gb247, 3, none⟩ = some (.bool false) := (bc BK247.out 3).trans rfl
        have hfz32_0 := bz BK247.out 0
        have hfz32_1 := bz BK247.out 1
        have hfz32_2 := bz BK247.out 2
        have hfz32_3 := bz BK247.out 3
        obtain ⟨Ao33, co33, eo33⟩ := Kd.R_slice HO_5.out
        subst eo33
        try go_wp2_with (first | ((with_reducible refine gate_callee (f := 133) rfl ?_); refine goesL_ (some 45) rfl rfl Try.func133 (by kernel_rfl) rfl #[.slice Ao33 x5_1.length co33, .int .i64 (rd t235 (ji14))] rfl (by (try simp only [List.map_toArray, List.map_cons, List.map_nil]); first | done | (simp only [hji14]; rfl) | rfl | (simp only [List.length_drop, List.length_take]; rfl)) ?_; (with_reducible refine (spec_HolderOf.calls k1 _ _ x5_1 (rd t235 (ji14)) t248 _ ?side1 ?side2 A18.out).mono ?_); (case side1 => refine (Kd.R_reads' (e := 84) (base := w.heap.size) (ok := fun k_ => k_ ≠ gb247) (n := x5_1.length) (c := co33) ?_).2.2; exact (by (with_reducible repeat (first | apply Kd.Ra | apply Kd.Rn | apply Kd.Rd)); exact (Kd.R_mono (Kd.Rf (p := ⟨gb247, 3, none⟩) (Kd.Rf (p := ⟨gb247, 2, none⟩) (Kd.Rf (p := ⟨gb247, 1, none⟩) (Kd.Rf (p := ⟨gb247, 0, none⟩) (Kd.R_mono HO_5.out (fun k_ hk => (⟨hk, hk⟩ : _ ∧ k_ ≠ gb247))) (fun _ hk => hk.2) (.int .i64 (wrap64 ((wrap64 (x7_1 + 1)) + t240)))) (fun _ hk => hk.2) (.int .i64 (rd t235 (ji14)))) (fun _ hk => hk.2) (.int .i64 (-1))) (fun _ hk => hk.2) (.bool t244)) (fun _ h_ => h_.1)))); (case side2 => exact (Kd.R_reads' HO_5.out).2.1); rintro e w' ⟨rfl, ⟨nd, rfl⟩⟩; refine ⟨_, rfl, ?_⟩))
        go_roundg k1
        case measure => have := HK1.out; omega
        case rel => exact ⟨(x5_1), (wrap64 ((wrap64 (x7_1 + 1)) + t240)), (wrap64 (x8_1 + 1)), (t245), (t246), (by first | rfl | (simp; done) | (simp [*]; done)), (by first | rfl | (simp; done) | (simp [*]; done)), H', ⟨by have := HK1.out; omega⟩, ⟨by (with_reducible repeat (first | apply Kd.Ra | apply Kd.Rn | apply Kd.Rd)); exact Kd.R_mono (Kd.Rf (p := ⟨gb247, 3, none⟩) (Kd.Rf (p := ⟨gb247, 2, none⟩) (Kd.Rf (p := ⟨gb247, 1, none⟩) (Kd.Rf (p := ⟨gb247, 0, none⟩) (Kd.R_mono HO_5.out (fun k_ hk => (⟨hk, hk⟩ : _ ∧ k_ ≠ gb247))) (fun _ hk => hk.2) (.int .i64 (wrap64 ((wrap64 (x7_1 + 1)) + t240)))) (fun _ hk => hk.2) (.int .i64 (rd t235 (ji14)))) (fun _ hk => hk.2) (.int .i64 (-1))) (fun _ hk => hk.2) (.bool t244)) (fun _ hk => trivial)⟩, ⟨by (with_reducible repeat (first | apply Kd.Ra | apply Kd.Rn | apply Kd.Rd)); exact Kd.R_mono (Kd.Rf (p := ⟨gb247, 3, none⟩) (Kd.Rf (p := ⟨gb247, 2, none⟩) (Kd.Rf (p := ⟨gb247, 1, none⟩) (Kd.Rf (p := ⟨gb247, 0, none⟩) (Kd.R_types HO_6.out BK247.out (by decide)) (fun _ hk => hk.2) (.int .i64 (wrap64 ((wrap64 (x7_1 + 1)) + t240)))) (fun _ hk => hk.2) (.int .i64 (rd t235 (ji14)))) (fun _ hk => hk.2) (.int .i64 (-1))) (fun _ hk => hk.2) (.bool t244)) (fun _ hk => trivial)⟩, ⟨by (with_reducible repeat first | apply bN | apply bd | apply ba); refine blk_far ?_ NB228_247.out _; (with_reducible repeat first | apply bN | apply bd | apply ba); refine blk_far ?_ NB228_247.out _; (with_reducible repeat first | apply bN | apply bd | apply ba); refine blk_far ?_ NB228_247.out _; (with_reducible repeat first | apply bN | apply bd | apply ba); refine blk_far ?_ NB228_247.out _; (with_reducible repeat first | apply bN | apply bd | apply ba); exact BK228.out⟩, ⟨by repeat (first | (with_reducible first | exact HI0.out | apply IsS169.alloc | apply IsS169.drewN | apply IsS169.drew | apply IsS169.set_1 | apply IsS169.set_2 | refine IsS169.far ?_ NB0_228.out _ | refine IsS169.far ?_ NB0_247.out _) | exact HI0.out)⟩, ⟨by repeat (first | (with_reducible first | exact HK.out | apply KeepBut.set_ | apply keep_drewN | apply keep_drew | apply keep_alloc | refine keep_far ?_ GW228.out _ | refine keep_far ?_ GW247.out _) | exact HK.out)⟩, ⟨by repeat (first | (with_reducible first | exact HB.out | apply wa | apply wN | apply wd | refine ws ?_ (IsS169.ge HI0.out) | refine ws ?_ GE228.out | refine ws ?_ GE247.out) | exact HB.out)⟩⟩
      rw [if_neg c19] at H
      have c19b0 : decide (0 ≤ t248) = false := decide_eq_false c19
      clear c19
      replace H := Option.bind_eq_some_iff.mp H
      obtain ⟨t249, A340, H⟩ := H
      replace H : (if (t249.length : Int) > 0 then ((spec_l01Once.f s0_0 t245 t246 4).bind fun bt252 => (spec_l20Right.j1 k1 x5_1 t235 (wrap64 ((wrap64 (x7_1 + 1)) + t240)) x8_1 t249 bt252.1 s0_0 bt252.2.1 bt252.2.2 a1_0 a1_1 a1_2 (wrap64 ((wrap64 (x7_1 + 1)) + t240)) (rd t235 (ji14)) (-1) t244)) else (spec_l20Right.j1 k1 x5_1 t235 (wrap64 ((wrap64 (x7_1 + 1)) + t240)) x8_1 t249 false s0_0 t245 t246 a1_0 a1_1 a1_2 (wrap64 ((wrap64 (x7_1 + 1)) + t240)) (rd t235 (ji14)) (-1) t244)) = some (r1, r2, r3) := H
      have A34 := Aside0.mk A340
      clear A340
      have HC35 := Aside0.mk H
      clear H
      obtain ⟨Ao36, co36, eo36⟩ := Kd.R_slice HO_6.out
      subst eo36
      try go_wp2_with (first | ((with_reducible refine gate_callee (f := 130) rfl ?_); refine goesL_ (some 27) rfl rfl Try.func130 (by kernel_rfl) rfl #[.pointer (some ⟨g, 0, none⟩), .int .i64 5] rfl (by (try simp only [List.map_toArray, List.map_cons, List.map_nil]); first | done | rfl | (simp only [List.length_drop, List.length_take]; rfl)) ?_; (with_reducible refine (spec_l01Below.calls g s0_0 x1001_1 x1002_1 5 t240 t241 t242 w0 _ ?side1 ?side2 A12.out).mono ?_); (case side1 => repeat (first | (with_reducible first | exact HI0.out | apply IsS169.alloc | apply IsS169.drewN | apply IsS169.drew | apply IsS169.set_1 | apply IsS169.set_2 | refine IsS169.far ?_ NB0_228.out _) | exact HI0.out)); (case side2 => repeat (first | (with_reducible first | exact HB.out | apply wa | apply wN | apply wd | refine ws ?_ (IsS169.ge HI0.out) | refine ws ?_ GE228.out) | exact HB.out)); rintro e w37 ⟨rfl, hi, hb, hk⟩; refine ⟨_, rfl, ?_⟩; have n0_ := Aside0.mk (Kd.R_mono (Kd.R_keep (IsS169.apart (show IsS169 w0 _ g s0_0 x1001_1 x1002_1 from by repeat (first | (with_reducible first | exact HI0.out | apply IsS169.alloc | apply IsS169.drewN | apply IsS169.drew | apply IsS169.set_1 | apply IsS169.set_2 | refine IsS169.far ?_ NB0_228.out _) | exact HI0.out)) (by (with_reducible repeat (first | apply Kd.Ra | apply Kd.Rn | apply Kd.Rd)); exact HO_5.out) (by decide)) hk (fun _ h => h.2)) (fun _ h => h.1)); have n1_ := Aside0.mk (Kd.R_mono (Kd.R_keep (IsS169.apart (show IsS169 w0 _ g s0_0 x1001_1 x1002_1 from by repeat (first | (with_reducible first | exact HI0.out | apply IsS169.alloc | apply IsS169.drewN | apply IsS169.drew | apply IsS169.set_1 | apply IsS169.set_2 | refine IsS169.far ?_ NB0_228.out _) | exact HI0.out)) (by (with_reducible repeat (first | apply Kd.Ra | apply Kd.Rn | apply Kd.Rd)); exact HO_6.out) (by decide)) hk (fun _ h => h.2)) (fun _ h => h.1)); have n2_ := Aside0.mk (KeepBut.blk hk (g' := gb228) (by (with_reducible repeat first | apply bN | apply bd | apply ba); exact BK228.out) NB228_0.out (by simp)); have n3_ := Aside0.mk (KeepBut.trans (by repeat (first | (with_reducible first | exact HK.out | apply KeepBut.set_ | apply keep_drewN | apply keep_drew | apply keep_alloc | refine keep_far ?_ GW228.out _) | exact HK.out)) hk (.inl rfl)); have n4_ := Aside0.mk (hb); have n5_ := Aside0.mk (hi); clear HO_5; clear HO_6; clear BK228; clear HK; clear HB; clear HI0; have HO_5 := n0_; have HO_6 := n1_; have BK228 := n2_; have HK := n3_; have HB := n4_; have HI0 := n5_; clear n0_ n1_ n2_ n3_ n4_ n5_; (try clear hb); (try clear hb2); (try clear hk); (try clear hi)))
      have n0_ := Aside0.mk (Kd.Rd HO_5.out)
      have n1_ := Aside0.mk (Kd.Rd HO_6.out)
      have n2_ := Aside0.mk (bd BK228.out)
      have n3_ := Aside0.mk (IsS169.drew HI0.out)
      have n4_ := Aside0.mk (keep_drew HK.out)
      have n5_ := Aside0.mk (wd HB.out)
      clear HO_5
      clear HO_6
      clear BK228
      clear HI0
      clear HK
      clear HB
      have HO_5 := n0_
      have HO_6 := n1_
      have BK228 := n2_
      have HI0 := n3_
      have HK := n4_
      have HB := n5_
      clear n0_ n1_ n2_ n3_ n4_ n5_
      have p243 : 0 ≤ ((ji14) : Int) := of_decide_eq_true (by first | (with_reducible assumption) | assumption)
      have q243 : (ji14) < (t235.length : Int) := of_decide_eq_true (by first | (with_reducible assumption) | assumption)
      obtain ⟨ad243, e243, hx243_0⟩ := Kd.at_int (Kd.R_reads' HO_6.out).2.2 (ji14) p243 q243
      cases e243
      replace p243 := eq_true p243
      replace q243 := eq_true q243
      refine start_ (n := 15) (S := fun w' => w'.cell? (ad243.add ((ji14)).toNat) = some (.int .i64 (rd t235 (ji14)))) (ds := []) #[false, false, false, false, false, false, false, false, false, false, false, false, false, false, false] (by kernel_rfl) rfl rfl (hx243_0) (fun hHeld => ?_); refine with_tabW spec_l20Right.tab8 spec_l20Right.bits8 (fun HT_ HW_ => ?_)
      generalize w37.drew = w38 at HO_5 HO_6 BK228 HI0 HK HB hx243_0 hHeld ⊢
      refine plan_ [(0, 29, 0), (1, 30, 0), (2, 31, 0), (3, 32, 0), (4, 33, 0), (5, 34, 0), (6, 35, 0), (7, 36, 0), (8, 37, 0), (10, 39, 0), (9, 38, 2)] ?_
      repeat (first | (refine p0_ (v := ?_) (a' := ?_) HT_.out (by rfl) (by rfl) (by rfl) (by kernel_rfl) (by exact fun _ _ _ h => h) (Or.inl ⟨by rfl, ?_⟩) ?_ ?_; rotate_left; (· (intro w'; go_simp; with_reducible rfl)); rotate_left; (· (simp only [Act.put, List.setIfInBounds_toArray, List.set_cons_zero, List.set_cons_succ, i64_w, i32_w]; rfl))) | (refine p2_ (v := ?_) (a' := ?_) HT_.out HW_.out (by rfl) (by rfl) (by rfl) (by kernel_rfl) (by exact fun _ _ _ h => h) (Or.inl ⟨by rfl, ?_⟩) hHeld ?_ ?_; rotate_left; (· (intro w' s0; go_simp; with_reducible rfl)); rotate_left; (· (simp only [Act.put, List.setIfInBounds_toArray, List.set_cons_zero, List.set_cons_succ, i64_w, i32_w]; rfl))))
      with_reducible refine end_ ?_
      refine join_ (σ := Nat) 1 #[true, true, true, true, true, true, true, true, true, true, true, true, true, true, false] (fun s_ => [(40, .bool t244), (9, .pointer (some ⟨s_, 0, none⟩)), (41, .agg #[.int .i64 (wrap64 ((wrap64 (x7_1 + 1)) + t240)), .int .i64 (rd t235 (ji14)), .int .i64 (-1), .bool t244])]) (fun s_ w' => (w'.cell? (ad243.add ((ji14)).toNat) = some (.int .i64 (rd t235 (ji14)))) ∧ (Kd.R k84 84 w' w.heap.size (fun k_ => k_ ≠ s_) u5 x5_1) ∧ (Kd.R (Kd.int .i64) 3 w' w.heap.size (fun _ => True) (.slice (some ad243) t235.length co36) t235) ∧ (w'.heap[gb228]? = some (.cells #[.int .i64 a1_0, .int .i64 a1_1, .string a1_2] 27 (0, 0))) ∧ (w'.heap[s_]? = some (.cells #[.int .i64 0, .int .i64 0, .int .i64 0, .bool false] 84 (0, 0))) ∧ (w.heap.size ≤ s_) ∧ (w0.heap.size ≤ s_) ∧ (g ≠ s_) ∧ (s_ ≠ g) ∧ (gb228 ≠ s_) ∧ (s_ ≠ gb228) ∧ (IsS169 w0 w' g s0_0 t245 t246) ∧ (KeepBut w w' g none) ∧ (Below w0.heap.size w0 w')) ?_ ?_
      rotate_left
      · intro hCont
        refine two_ (i := 11) (j := 13) (Ni := some 40) (Nj := some 9) #[true, true, true, true, true, true, true, true, true, true, true, true, false, false, false] #[true, true, true, true, true, true, true, true, true, true, true, false, false, true, false] rfl rfl rfl rfl (two_of HT_.out (by kernel_rfl)) (by decide) (by decide) (fun K hK => ?_) (fun K hK => ?_)
        · skip
          refine goes_ Try.func132 (by kernel_rfl) rfl #[.pointer (some ⟨g, 0, none⟩), .int .i64 4] (by rfl) rfl rfl (by (try simp only [List.map_toArray, List.map_cons, List.map_nil]); first | done | rfl | (simp only [List.length_drop, List.length_take]; rfl)) ?_
          with_reducible refine (spec_l01Once.calls g s0_0 t241 t242 4 t244 t245 t246 w0 _ ?side1 ?side2 A17.out).mono ?_
          (case side1 => repeat (first | (with_reducible first | exact HI0.out | apply IsS169.alloc | apply IsS169.drewN | apply IsS169.drew | apply IsS169.set_1 | apply IsS169.set_2 | refine IsS169.far ?_ NB0_228.out _) | exact HI0.out))
          (case side2 => repeat (first | (with_reducible first | exact HB.out | apply wa | apply wN | apply wd | refine ws ?_ (IsS169.ge HI0.out) | refine ws ?_ GE228.out) | exact HB.out))
          rintro e w39 ⟨rfl, hi, hb, hk⟩
          have HS0_ := keep_cell hk (hHeld) (by first | (rw [add_block]; exact Kd.own_blk (IsS169.own_ne HI0.out HO_6.out (by decide))) | (show (Addr.add _ _).block ≠ _; rw [add_block]; exact Kd.own_blk (IsS169.own_ne HI0.out HO_6.out (by decide))) | exact Kd.own_blk (IsS169.own_ne HI0.out HO_6.out (by decide)))
          refine ⟨_, rfl, ?_⟩
          have n0_ := Aside0.mk (Kd.R_mono (Kd.R_keep (IsS169.apart (show IsS169 w0 _ g s0_0 t241 t242 from by repeat (first | (with_reducible first | exact HI0.out | apply IsS169.alloc | apply IsS169.drewN | apply IsS169.drew | apply IsS169.set_1 | apply IsS169.set_2 | refine IsS169.far ?_ NB0_228.out _) | exact HI0.out)) (by (with_reducible repeat (first | apply Kd.Ra | apply Kd.Rn | apply Kd.Rd)); exact HO_5.out) (by decide)) hk (fun _ h => h.2)) (fun _ h => h.1))
          have n1_ := Aside0.mk (Kd.R_mono (Kd.R_keep (IsS169.apart (show IsS169 w0 _ g s0_0 t241 t242 from by repeat (first | (with_reducible first | exact HI0.out | apply IsS169.alloc | apply IsS169.drewN | apply IsS169.drew | apply IsS169.set_1 | apply IsS169.set_2 | refine IsS169.far ?_ NB0_228.out _) | exact HI0.out)) (by (with_reducible repeat (first | apply Kd.Ra | apply Kd.Rn | apply Kd.Rd)); exact HO_6.out) (by decide)) hk (fun _ h => h.2)) (fun _ h => h.1))
          have n2_ := Aside0.mk (KeepBut.blk hk (g' := gb228) (by (with_reducible repeat first | apply bN | apply bd | apply ba); exact BK228.out) NB228_0.out (by simp))
          have n3_ := Aside0.mk (KeepBut.trans (by repeat (first | (with_reducible first | exact HK.out | apply KeepBut.set_ | apply keep_drewN | apply keep_drew | apply keep_alloc | refine keep_far ?_ GW228.out _) | exact HK.out)) hk (.inl rfl))
          have n4_ := Aside0.mk (hb)
          have n5_ := Aside0.mk (hi)
          clear HO_5
          clear HO_6
          clear BK228
          clear HK
          clear HB
          clear HI0
          have HO_5 := n0_
          have HO_6 := n1_
          have BK228 := n2_
          have HK := n3_
          have HB := n4_
          have HI0 := n5_
          clear n0_ n1_ n2_ n3_ n4_ n5_
          (try clear hb)
          (try clear hb2)
          (try clear hk)
          (try clear hi)
          refine hK.out _ _ (HS0_) (fun hHeld => ?_)
          clear hK K
          refine norm_ (a' := ?_) ?_ ?_
          rotate_left
          · show Act.put _ (some 40) _ = _
            simp only [Act.put, List.setIfInBounds_toArray, List.set_cons_zero, List.set_cons_succ, i64_w, i32_w]
            rfl
          refine pure_ (i := 12) (N := some 41) (v := ?_) (a' := ?_) #[true, true, true, true, true, true, true, true, true, true, true, true, true, false, false] rfl rfl (any_of HT_.out (by kernel_rfl)) (fun _ _ _ h => h) (Or.inl ⟨by rfl, ?_⟩) ?_ ?_
          rotate_left
          · intro w'
            go_simp
            with_reducible rfl
          rotate_left
          · simp only [Act.put, List.setIfInBounds_toArray, List.set_cons_zero, List.set_cons_succ, i64_w, i32_w]
            rfl
          refine one_ (i := 13) (N := some 9) #[true, true, true, true, true, true, true, true, true, true, true, true, true, true, false] rfl rfl (one_of HT_.out (by kernel_rfl)) (by decide) (fun K hK => ?_)
          refine box_step ?hg (N := 9) ?hd (cs := #[.int .i64 0, .int .i64 0, .int .i64 0, .bool false]) (t := 84) ?hr ?_; (case hd => rfl); (case hg => rfl); (case hr => first | (go_simp; done) | (go_simp; rfl))
          intro gb247 hg w40 hbox hb
          have HS0_ := (hb.cell (World.block_lt_of_cell? _ _ (hHeld))).trans (hHeld)
          have n0_ := Aside0.mk (Kd.Rb (Kd.R_elderB (by (with_reducible repeat (first | apply Kd.Ra | apply Kd.Rn | apply Kd.Rd)); exact HO_5.out) gb247 (Nat.le_of_eq hg.symm)) hb)
          have n1_ := Aside0.mk (Kd.Rb (by (with_reducible repeat (first | apply Kd.Ra | apply Kd.Rn | apply Kd.Rd)); exact HO_6.out) hb)
          have n2_ := Aside0.mk (bb (g := gb228) (by first | (with_reducible exact BK228.out) | (with_reducible exact bN BK228.out _) | (with_reducible exact bd BK228.out) | ((with_reducible repeat first | apply bN | apply bd | apply ba); exact BK228.out)) hb)
          have n3_ := Aside0.mk (IsS169.below (by repeat (first | (with_reducible first | exact HI0.out | apply IsS169.alloc | apply IsS169.drewN | apply IsS169.drew | apply IsS169.set_1 | apply IsS169.set_2 | refine IsS169.far ?_ NB0_228.out _) | exact HI0.out)) hb)
          have n4_ := Aside0.mk (KeepBut.trans (by repeat (first | (with_reducible first | exact HK.out | apply KeepBut.set_ | apply keep_drewN | apply keep_drew | apply keep_alloc | refine keep_far ?_ GW228.out _) | exact HK.out)) (KeepBut.of_below hb g none) (.inl rfl))
          have n5_ := Aside0.mk (below_step (by repeat (first | (with_reducible first | exact HB.out | apply wa | apply wN | apply wd | refine ws ?_ (IsS169.ge HI0.out) | refine ws ?_ GE228.out) | exact HB.out)) hb)
          have n6_ := Aside0.mk (hbox)
          have n7_ := Aside0.mk ((by rw [hg]; exact (keep_size (w := w) (g := g) (row := none) (by repeat (first | (with_reducible first | exact HK.out | apply KeepBut.set_ | apply keep_drewN | apply keep_drew | apply keep_alloc | refine keep_far ?_ GW228.out _) | exact HK.out))) : w.heap.size ≤ gb247))
          have n8_ := Aside0.mk ((Nat.le_trans HW0.out (by rw [hg]; exact (keep_size (w := w) (g := g) (row := none) (by repeat (first | (with_reducible first | exact HK.out | apply KeepBut.set_ | apply keep_drewN | apply keep_drew | apply keep_alloc | refine keep_far ?_ GW228.out _) | exact HK.out))) : w.heap.size ≤ gb247) : w0.heap.size ≤ gb247))
          have n9_ := Aside0.mk ((by rw [hg]; exact Nat.ne_of_lt (blk_lt (g := gb228) (by (with_reducible repeat first | apply bN | apply bd | apply ba); exact BK228.out)) : gb228 ≠ gb247))
          have n10_ := Aside0.mk ((by rw [hg]; exact Nat.ne_of_gt (blk_lt (g := gb228) (by (with_reducible repeat first | apply bN | apply bd | apply ba); exact BK228.out)) : gb247 ≠ gb228))
          have n11_ := Aside0.mk ((by rw [hg]; exact Nat.ne_of_lt (IsS169.lt (show IsS169 w0 _ g s0_0 t245 t246 from by repeat (first | (with_reducible first | exact HI0.out | apply IsS169.alloc | apply IsS169.drewN | apply IsS169.drew | apply IsS169.set_1 | apply IsS169.set_2 | refine IsS169.far ?_ NB0_228.out _) | exact HI0.out))) : g ≠ gb247))
          have n12_ := Aside0.mk ((by rw [hg]; exact Nat.ne_of_gt (IsS169.lt (show IsS169 w0 _ g s0_0 t245 t246 from by repeat (first | (with_reducible first | exact HI0.out | apply IsS169.alloc | apply IsS169.drewN | apply IsS169.drew | apply IsS169.set_1 | apply IsS169.set_2 | refine IsS169.far ?_ NB0_228.out _) | exact HI0.out))) : gb247 ≠ g))
          clear HO_5
          clear HO_6
          clear BK228
          clear HI0
          clear HK
          clear HB
          have HO_5 := n0_
          have HO_6 := n1_
          have BK228 := n2_
          have HI0 := n3_
          have HK := n4_
          have HB := n5_
          have BK247 := n6_
          have GW247 := n7_
          have GE247 := n8_
          have NB228_247 := n9_
          have NB247_228 := n10_
          have NB0_247 := n11_
          have NB247_0 := n12_
          clear n0_ n1_ n2_ n3_ n4_ n5_ n6_ n7_ n8_ n9_ n10_ n11_ n12_
          clear hb hbox hg
          refine hK.out _ _ (HS0_) (fun hHeld => ?_)
          clear hK K
          refine norm_ (a' := ?_) ?_ ?_
          rotate_left
          · show Act.put _ (some 9) _ = _
            simp only [Act.put, List.setIfInBounds_toArray, List.set_cons_zero, List.set_cons_succ, i64_w, i32_w]
            rfl
          exact norm_ (by simp only [putAll, Act.put, List.setIfInBounds_toArray, List.set_cons_zero, List.set_cons_succ]) (hCont (gb247) _ ⟨hHeld, (by (with_reducible repeat (first | apply Kd.Ra | apply Kd.Rn | apply Kd.Rd)); exact Kd.R_mono HO_5.out (fun _ hk => hk.2)), (by (with_reducible repeat (first | apply Kd.Ra | apply Kd.Rn | apply Kd.Rd)); exact HO_6.out), (by (with_reducible repeat first | apply bN | apply bd | apply ba); exact BK228.out), (by (with_reducible repeat first | apply bN | apply bd | apply ba); exact BK247.out), GW247.out, GE247.out, NB0_247.out, NB247_0.out, NB228_247.out, NB247_228.out, (by repeat (first | (with_reducible first | exact HI0.out | apply IsS169.alloc | apply IsS169.drewN | apply IsS169.drew | apply IsS169.set_1 | apply IsS169.set_2 | refine IsS169.far ?_ NB0_228.out _ | refine IsS169.far ?_ NB0_247.out _) | exact HI0.out)), (by repeat (first | (with_reducible first | exact HK.out | apply KeepBut.set_ | apply keep_drewN | apply keep_drew | apply keep_alloc | refine keep_far ?_ GW228.out _ | refine keep_far ?_ GW247.out _) | exact HK.out)), (by repeat (first | (with_reducible first | exact HB.out | apply wa | apply wN | apply wd | refine ws ?_ (IsS169.ge HI0.out) | refine ws ?_ GE228.out | refine ws ?_ GE247.out) | exact HB.out))⟩)
        · skip
          refine box_step ?hg (N := 9) ?hd (cs := #[.int .i64 0, .int .i64 0, .int .i64 0, .bool false]) (t := 84) ?hr ?_; (case hd => rfl); (case hg => rfl); (case hr => first | (go_simp; done) | (go_simp; rfl))
          intro gb247 hg w39 hbox hb
          have HS0_ := (hb.cell (World.block_lt_of_cell? _ _ (hHeld))).trans (hHeld)
          have n0_ := Aside0.mk (Kd.Rb (Kd.R_elderB (by (with_reducible repeat (first | apply Kd.Ra | apply Kd.Rn | apply Kd.Rd)); exact HO_5.out) gb247 (Nat.le_of_eq hg.symm)) hb)
          have n1_ := Aside0.mk (Kd.Rb (by (with_reducible repeat (first | apply Kd.Ra | apply Kd.Rn | apply Kd.Rd)); exact HO_6.out) hb)
          have n2_ := Aside0.mk (bb (g := gb228) (by first | (with_reducible exact BK228.out) | (with_reducible exact bN BK228.out _) | (with_reducible exact bd BK228.out) | ((with_reducible repeat first | apply bN | apply bd | apply ba); exact BK228.out)) hb)
          have n3_ := Aside0.mk (IsS169.below (by repeat (first | (with_reducible first | exact HI0.out | apply IsS169.alloc | apply IsS169.drewN | apply IsS169.drew | apply IsS169.set_1 | apply IsS169.set_2 | refine IsS169.far ?_ NB0_228.out _) | exact HI0.out)) hb)
          have n4_ := Aside0.mk (KeepBut.trans (by repeat (first | (with_reducible first | exact HK.out | apply KeepBut.set_ | apply keep_drewN | apply keep_drew | apply keep_alloc | refine keep_far ?_ GW228.out _) | exact HK.out)) (KeepBut.of_below hb g none) (.inl rfl))
          have n5_ := Aside0.mk (below_step (by repeat (first | (with_reducible first | exact HB.out | apply wa | apply wN | apply wd | refine ws ?_ (IsS169.ge HI0.out) | refine ws ?_ GE228.out) | exact HB.out)) hb)
          have n6_ := Aside0.mk (hbox)
          have n7_ := Aside0.mk ((by rw [hg]; exact (keep_size (w := w) (g := g) (row := none) (by repeat (first | (with_reducible first | exact HK.out | apply KeepBut.set_ | apply keep_drewN | apply keep_drew | apply keep_alloc | refine keep_far ?_ GW228.out _) | exact HK.out))) : w.heap.size ≤ gb247))
          have n8_ := Aside0.mk ((Nat.le_trans HW0.out (by rw [hg]; exact (keep_size (w := w) (g := g) (row := none) (by repeat (first | (with_reducible first | exact HK.out | apply KeepBut.set_ | apply keep_drewN | apply keep_drew | apply keep_alloc | refine keep_far ?_ GW228.out _) | exact HK.out))) : w.heap.size ≤ gb247) : w0.heap.size ≤ gb247))
          have n9_ := Aside0.mk ((by rw [hg]; exact Nat.ne_of_lt (blk_lt (g := gb228) (by (with_reducible repeat first | apply bN | apply bd | apply ba); exact BK228.out)) : gb228 ≠ gb247))
          have n10_ := Aside0.mk ((by rw [hg]; exact Nat.ne_of_gt (blk_lt (g := gb228) (by (with_reducible repeat first | apply bN | apply bd | apply ba); exact BK228.out)) : gb247 ≠ gb228))
          have n11_ := Aside0.mk ((by rw [hg]; exact Nat.ne_of_lt (IsS169.lt (show IsS169 w0 _ g s0_0 t241 t242 from by repeat (first | (with_reducible first | exact HI0.out | apply IsS169.alloc | apply IsS169.drewN | apply IsS169.drew | apply IsS169.set_1 | apply IsS169.set_2 | refine IsS169.far ?_ NB0_228.out _) | exact HI0.out))) : g ≠ gb247))
          have n12_ := Aside0.mk ((by rw [hg]; exact Nat.ne_of_gt (IsS169.lt (show IsS169 w0 _ g s0_0 t241 t242 from by repeat (first | (with_reducible first | exact HI0.out | apply IsS169.alloc | apply IsS169.drewN | apply IsS169.drew | apply IsS169.set_1 | apply IsS169.set_2 | refine IsS169.far ?_ NB0_228.out _) | exact HI0.out))) : gb247 ≠ g))
          clear HO_5
          clear HO_6
          clear BK228
          clear HI0
          clear HK
          clear HB
          have HO_5 := n0_
          have HO_6 := n1_
          have BK228 := n2_
          have HI0 := n3_
          have HK := n4_
          have HB := n5_
          have BK247 := n6_
          have GW247 := n7_
          have GE247 := n8_
          have NB228_247 := n9_
          have NB247_228 := n10_
          have NB0_247 := n11_
          have NB247_0 := n12_
          clear n0_ n1_ n2_ n3_ n4_ n5_ n6_ n7_ n8_ n9_ n10_ n11_ n12_
          clear hb hbox hg
          refine hK.out _ _ (HS0_) (fun hHeld => ?_)
          clear hK K
          refine norm_ (a' := ?_) ?_ ?_
          rotate_left
          · show Act.put _ (some 9) _ = _
            simp only [Act.put, List.setIfInBounds_toArray, List.set_cons_zero, List.set_cons_succ, i64_w, i32_w]
            rfl
          refine one_ (i := 11) (N := some 40) #[true, true, true, true, true, true, true, true, true, true, true, true, false, true, false] rfl rfl (one_of HT_.out (by kernel_rfl)) (by decide) (fun K hK => ?_)
          refine goes_ Try.func132 (by kernel_rfl) rfl #[.pointer (some ⟨g, 0, none⟩), .int .i64 4] (by rfl) rfl rfl (by (try simp only [List.map_toArray, List.map_cons, List.map_nil]); first | done | rfl | (simp only [List.length_drop, List.length_take]; rfl)) ?_
          with_reducible refine (spec_l01Once.calls g s0_0 t241 t242 4 t244 t245 t246 w0 _ ?side1 ?side2 A17.out).mono ?_
          (case side1 => repeat (first | (with_reducible first | exact HI0.out | apply IsS169.alloc | apply IsS169.drewN | apply IsS169.drew | apply IsS169.set_1 | apply IsS169.set_2 | refine IsS169.far ?_ NB0_228.out _ | refine IsS169.far ?_ NB0_247.out _) | exact HI0.out))
          (case side2 => repeat (first | (with_reducible first | exact HB.out | apply wa | apply wN | apply wd | refine ws ?_ (IsS169.ge HI0.out) | refine ws ?_ GE228.out | refine ws ?_ GE247.out) | exact HB.out))
          rintro e w40 ⟨rfl, hi, hb, hk⟩
          have HS0_ := keep_cell hk (hHeld) (by first | (rw [add_block]; exact Kd.own_blk (IsS169.own_ne HI0.out HO_6.out (by decide))) | (show (Addr.add _ _).block ≠ _; rw [add_block]; exact Kd.own_blk (IsS169.own_ne HI0.out HO_6.out (by decide))) | exact Kd.own_blk (IsS169.own_ne HI0.out HO_6.out (by decide)))
          refine ⟨_, rfl, ?_⟩
          have n0_ := Aside0.mk (Kd.R_mono (Kd.R_keep (IsS169.apart (show IsS169 w0 _ g s0_0 t241 t242 from by repeat (first | (with_reducible first | exact HI0.out | apply IsS169.alloc | apply IsS169.drewN | apply IsS169.drew | apply IsS169.set_1 | apply IsS169.set_2 | refine IsS169.far ?_ NB0_228.out _ | refine IsS169.far ?_ NB0_247.out _) | exact HI0.out)) (by (with_reducible repeat (first | apply Kd.Ra | apply Kd.Rn | apply Kd.Rd)); exact HO_5.out) (by decide)) hk (fun _ h => h.2)) (fun _ h => h.1))
          have n1_ := Aside0.mk (Kd.R_mono (Kd.R_keep (IsS169.apart (show IsS169 w0 _ g s0_0 t241 t242 from by repeat (first | (with_reducible first | exact HI0.out | apply IsS169.alloc | apply IsS169.drewN | apply IsS169.drew | apply IsS169.set_1 | apply IsS169.set_2 | refine IsS169.far ?_ NB0_228.out _ | refine IsS169.far ?_ NB0_247.out _) | exact HI0.out)) (by (with_reducible repeat (first | apply Kd.Ra | apply Kd.Rn | apply Kd.Rd)); exact HO_6.out) (by decide)) hk (fun _ h => h.2)) (fun _ h => h.1))
          have n2_ := Aside0.mk (KeepBut.blk hk (g' := gb228) (by (with_reducible repeat first | apply bN | apply bd | apply ba); exact BK228.out) NB228_0.out (by simp))
          have n3_ := Aside0.mk (KeepBut.blk hk (g' := gb247) (by (with_reducible repeat first | apply bN | apply bd | apply ba); exact BK247.out) NB247_0.out (by simp))
          have n4_ := Aside0.mk (KeepBut.trans (by repeat (first | (with_reducible first | exact HK.out | apply KeepBut.set_ | apply keep_drewN | apply keep_drew | apply keep_alloc | refine keep_far ?_ GW228.out _ | refine keep_far ?_ GW247.out _) | exact HK.out)) hk (.inl rfl))
          have n5_ := Aside0.mk (hb)
          have n6_ := Aside0.mk (hi)
          clear HO_5
          clear HO_6
          clear BK228
          clear BK247
          clear HK
          clear HB
          clear HI0
          have HO_5 := n0_
          have HO_6 := n1_
          have BK228 := n2_
          have BK247 := n3_
          have HK := n4_
          have HB := n5_
          have HI0 := n6_
          clear n0_ n1_ n2_ n3_ n4_ n5_ n6_
          (try clear hb)
          (try clear hb2)
          (try clear hk)
          (try clear hi)
          refine hK.out _ _ (HS0_) (fun hHeld => ?_)
          clear hK K
          refine norm_ (a' := ?_) ?_ ?_
          rotate_left
          · show Act.put _ (some 40) _ = _
            simp only [Act.put, List.setIfInBounds_toArray, List.set_cons_zero, List.set_cons_succ, i64_w, i32_w]
            rfl
          refine pure_ (i := 12) (N := some 41) (v := ?_) (a' := ?_) #[true, true, true, true, true, true, true, true, true, true, true, true, true, true, false] rfl rfl (any_of HT_.out (by kernel_rfl)) (fun _ _ _ h => h) (Or.inl ⟨by rfl, ?_⟩) ?_ ?_
          rotate_left
          · intro w'
            go_simp
            with_reducible rfl
          rotate_left
          · simp only [Act.put, List.setIfInBounds_toArray, List.set_cons_zero, List.set_cons_succ, i64_w, i32_w]
            rfl
          exact norm_ (by simp only [putAll, Act.put, List.setIfInBounds_toArray, List.set_cons_zero, List.set_cons_succ]) (hCont (gb247) _ ⟨hHeld, (by (with_reducible repeat (first | apply Kd.Ra | apply Kd.Rn | apply Kd.Rd)); exact Kd.R_mono HO_5.out (fun _ hk => hk.2)), (by (with_reducible repeat (first | apply Kd.Ra | apply Kd.Rn | apply Kd.Rd)); exact HO_6.out), (by (with_reducible repeat first | apply bN | apply bd | apply ba); exact BK228.out), (by (with_reducible repeat first | apply bN | apply bd | apply ba); exact BK247.out), GW247.out, GE247.out, NB0_247.out, NB247_0.out, NB228_247.out, NB247_228.out, (by repeat (first | (with_reducible first | exact HI0.out | apply IsS169.alloc | apply IsS169.drewN | apply IsS169.drew | apply IsS169.set_1 | apply IsS169.set_2 | refine IsS169.far ?_ NB0_228.out _ | refine IsS169.far ?_ NB0_247.out _) | exact HI0.out)), (by repeat (first | (with_reducible first | exact HK.out | apply KeepBut.set_ | apply keep_drewN | apply keep_drew | apply keep_alloc | refine keep_far ?_ GW228.out _ | refine keep_far ?_ GW247.out _) | exact HK.out)), (by repeat (first | (with_reducible first | exact HB.out | apply wa | apply wN | apply wd | refine ws ?_ (IsS169.ge HI0.out) | refine ws ?_ GE228.out | refine ws ?_ GE247.out) | exact HB.out))⟩)
      rintro gb247 w41 ⟨hS_, h0_, h1_, h2_, h3_, h4_, h5_, h6_, h7_, h8_, h9_, h10_, h11_, h12_⟩
      have n0_ : Aside0 (Kd.R k84 84 w41 w.heap.size (fun k_ => k_ ≠ gb247) u5 x5_1) := ⟨h0_⟩
      have n1_ : Aside0 (Kd.R (Kd.int .i64) 3 w41 w.heap.size (fun _ => True) (.slice (some ad243) t235.length co36) t235) := ⟨h1_⟩
      have n2_ : Aside0 (w41.heap[gb228]? = some (.cells #[.int .i64 a1_0, .int .i64 a1_1, .string a1_2] 27 (0, 0))) := ⟨h2_⟩
      have n3_ : Aside0 (w41.heap[gb247]? = some (.cells #[.int .i64 0, .int .i64 0, .int .i64 0, .bool false] 84 (0, 0))) := ⟨h3_⟩
      have n4_ : Aside0 (w.heap.size ≤ gb247) := ⟨h4_⟩
      have n5_ : Aside0 (w0.heap.size ≤ gb247) := ⟨h5_⟩
      have n6_ : Aside0 (g ≠ gb247) := ⟨h6_⟩
      have n7_ : Aside0 (gb247 ≠ g) := ⟨h7_⟩
      have n8_ : Aside0 (gb228 ≠ gb247) := ⟨h8_⟩
      have n9_ : Aside0 (gb247 ≠ gb228) := ⟨h9_⟩
      have n10_ : Aside0 (IsS169 w0 w41 g s0_0 t245 t246) := ⟨h10_⟩
      have n11_ : Aside0 (KeepBut w w41 g none) := ⟨h11_⟩
      have n12_ : Aside0 (Below w0.heap.size w0 w41) := ⟨h12_⟩
      clear HO_5
      clear HO_6
      clear BK228
      clear HI0
      clear HK
      clear HB
      clear h0_ h1_ h2_ h3_ h4_ h5_ h6_ h7_ h8_ h9_ h10_ h11_ h12_
      have HO_5 := n0_
      have HO_6 := n1_
      have BK228 := n2_
      have BK247 := n3_
      have GW247 := n4_
      have GE247 := n5_
      have NB0_247 := n6_
      have NB247_0 := n7_
      have NB228_247 := n8_
      have NB247_228 := n9_
      have HI0 := n10_
      have HK := n11_
      have HB := n12_
      clear n0_ n1_ n2_ n3_ n4_ n5_ n6_ n7_ n8_ n9_ n10_ n11_ n12_
      have hHeld : w41.cell? (ad243.add ((ji14)).toNat) = some (.int .i64 (rd t235 (ji14))) := hS_
      refine norm_ (a' := ?_) ?_ ?_
      rotate_left
      · simp only [putAll, Act.put, List.setIfInBounds_toArray, List.set_cons_zero, List.set_cons_succ]
        rfl
      refine one_ (i := 14) (N := none) #[true, true, true, true, true, true, true, true, true, true, true, true, true, true, true] rfl rfl (one_of HT_.out (by kernel_rfl)) (by decide) (fun K hK => ?_)
      have hs42 : w41.cell? ⟨gb247, 0, none⟩ = some (.int .i64 0) := (bc BK247.out 0).trans rfl
      have hfs42 := bz BK247.out 0
      have hns42_0 := NB228_247.out
      have hms42_0 := NB247_228.out
      have hs43 : w41.cell? ⟨gb247, 1, none⟩ = some (.int .i64 0) := (bc BK247.out 1).trans rfl
      have hfs43 := bz BK247.out 1
      have hns43_0 := NB228_247.out
      have hms43_0 := NB247_228.out
      have hs44 : w41.cell? ⟨gb247, 2, none⟩ = some (.int .i64 0) := (bc BK247.out 2).trans rfl
      have hfs44 := bz BK247.out 2
      have hns44_0 := NB228_247.out
      have hms44_0 := NB247_228.out
      have hs45 : w41.cell? ⟨gb247, 3, none⟩ = some (.bool false) := (bc BK247.out 3).trans rfl
      have hfs45 := bz BK247.out 3
      have hns45_0 := NB228_247.out
      have hms45_0 := NB247_228.out
      refine skip_ (w1 := ?_) (by rfl) rfl ?_ ?_
      rotate_left
      · go_simp
        rfl
      refine hK.out _ _ (((cell_far (p := ⟨gb247, _, none⟩) (by first | exact Kd.own_blk (Kd.R_ne HO_6.out BK247.out (by decide)) | (rw [add_block]; exact Kd.own_blk (Kd.R_ne HO_6.out BK247.out (by decide))) | (show (Addr.add _ _).block ≠ _; rw [add_block]; exact Kd.own_blk (Kd.R_ne HO_6.out BK247.out (by decide))) | (dsimp only; exact Kd.own_blk (Kd.R_ne HO_6.out BK247.out (by decide)))) _).trans (((cell_far (p := ⟨gb247, _, none⟩) (by first | exact Kd.own_blk (Kd.R_ne HO_6.out BK247.out (by decide)) | (rw [add_block]; exact Kd.own_blk (Kd.R_ne HO_6.out BK247.out (by decide))) | (show (Addr.add _ _).block ≠ _; rw [add_block]; exact Kd.own_blk (Kd.R_ne HO_6.out BK247.out (by decide))) | (dsimp only; exact Kd.own_blk (Kd.R_ne HO_6.out BK247.out (by decide)))) _).trans (((cell_far (p := ⟨gb247, _, none⟩) (by first | exact Kd.own_blk (Kd.R_ne HO_6.out BK247.out (by decide)) | (rw [add_block]; exact Kd.own_blk (Kd.R_ne HO_6.out BK247.out (by decide))) | (show (Addr.add _ _).block ≠ _; rw [add_block]; exact Kd.own_blk (Kd.R_ne HO_6.out BK247.out (by decide))) | (dsimp only; exact Kd.own_blk (Kd.R_ne HO_6.out BK247.out (by decide)))) _).trans (((cell_far (p := ⟨gb247, _, none⟩) (by first | exact Kd.own_blk (Kd.R_ne HO_6.out BK247.out (by decide)) | (rw [add_block]; exact Kd.own_blk (Kd.R_ne HO_6.out BK247.out (by decide))) | (show (Addr.add _ _).block ≠ _; rw [add_block]; exact Kd.own_blk (Kd.R_ne HO_6.out BK247.out (by decide))) | (dsimp only; exact Kd.own_blk (Kd.R_ne HO_6.out BK247.out (by decide)))) _).trans (hHeld))))))))) (fun hHeld => ?_)
      clear hK K
      refine done_ (done_of HT_.out (by kernel_rfl)) ?_
      have hnb46 := NB247_228.out
      have hnc46 := NB228_247.out
      have hnb47 := NB247_0.out
      have hnc47 := NB0_247.out
      have hcz48_0 : w41.cell? ⟨gb247, 0, none⟩ = some (.int .i64 0) := (bc BK247.out 0).trans rfl
      have hcz48_1 : w41.cell? ⟨gb247, 1, none⟩ = some (.int .i64 0) := (bc BK247.out 1).trans rfl
      have hcz48_2 : w41.cell? ⟨gb247, 2, none⟩ = some (.int .i64 0) := (bc BK247.out 2).trans rfl
      have hcz48_3 : w41.cell? ⟨gb247, 3, none⟩ = some (.bool false) := (bc BK247.out 3).trans rfl
      have hfz48_0 := bz BK247.out 0
      have hfz48_1 := bz BK247.out 1
      have hfz48_2 := bz BK247.out 2
      have hfz48_3 := bz BK247.out 3
      obtain ⟨Ao49, co49, eo49⟩ := Kd.R_slice HO_5.out
      subst eo49
      go_upto_region 11 with (first | ((with_reducible refine gate_callee (f := 133) rfl ?_); refine goesL_ (some 45) rfl rfl Try.func133 (by kernel_rfl) rfl #[.slice Ao49 x5_1.length co49, .int .i64 (rd t235 (ji14))] rfl (by (try simp only [List.map_toArray, List.map_cons, List.map_nil]); first | done | (simp only [hji14]; rfl) | rfl | (simp only [List.length_drop, List.length_take]; rfl)) ?_; (with_reducible refine (spec_HolderOf.calls k1 _ _ x5_1 (rd t235 (ji14)) t248 _ ?side1 ?side2 A18.out).mono ?_); (case side1 => refine (Kd.R_reads' (e := 84) (base := w.heap.size) (ok := fun k_ => k_ ≠ gb247) (n := x5_1.length) (c := co49) ?_).2.2; exact (by (with_reducible repeat (first | apply Kd.Ra | apply Kd.Rn | apply Kd.Rd)); exact (Kd.R_mono (Kd.Rf (p := ⟨gb247, 3, none⟩) (Kd.Rf (p := ⟨gb247, 2, none⟩) (Kd.Rf (p := ⟨gb247, 1, none⟩) (Kd.Rf (p := ⟨gb247, 0, none⟩) (Kd.R_mono HO_5.out (fun k_ hk => (⟨hk, hk⟩ : _ ∧ k_ ≠ gb247))) (fun _ hk => hk.2) (.int .i64 (wrap64 ((wrap64 (x7_1 + 1)) + t240)))) (fun _ hk => hk.2) (.int .i64 (rd t235 (ji14)))) (fun _ hk => hk.2) (.int .i64 (-1))) (fun _ hk => hk.2) (.bool t244)) (fun _ h_ => h_.1)))); (case side2 => exact (Kd.R_reads' HO_5.out).2.1); rintro e w' ⟨rfl, ⟨nd, rfl⟩⟩; refine ⟨_, rfl, ?_⟩; have hnb50 := NB228_0.out; have hnc50 := NB0_228.out; have hcz51_0 : w41.cell? ⟨gb228, 0, none⟩ = some (.int .i64 a1_0) := (bc BK228.out 0).trans rfl; have hcz51_1 : w41.cell? ⟨gb228, 1, none⟩ = some (.int .i64 a1_1) := (bc BK228.out 1).trans rfl; have hcz51_2 : w41.cell? ⟨gb228, 2, none⟩ = some (.string a1_2) := (bc BK228.out 2).trans rfl) | ((with_reducible refine gate_callee (f := 134) rfl ?_); refine goesL_ (some 50) rfl rfl Try.func134 (by kernel_rfl) rfl #[.agg #[.int .i64 a1_0, .int .i64 a1_1, .string a1_2], .int .i64 (rd t235 (ji14))] rfl (by (try simp only [List.map_toArray, List.map_cons, List.map_nil]); first | done | (simp only [hji14]; rfl) | rfl | (simp only [List.length_drop, List.length_take]; rfl)) ?_; (with_reducible refine (spec_Around.calls k1 a1_0 a1_1 a1_2 (rd t235 (ji14)) t249 _ A34.out).mono ?_); rintro e w52 ⟨v250, rfl, ho0, hb⟩; refine ⟨_, rfl, ?_⟩; have n0_ := Aside0.mk (Kd.Rb (by (with_reducible repeat (first | apply Kd.Ra | apply Kd.Rn | apply Kd.Rd)); exact (Kd.R_mono (Kd.Rf (p := ⟨gb247, 3, none⟩) (Kd.Rf (p := ⟨gb247, 2, none⟩) (Kd.Rf (p := ⟨gb247, 1, none⟩) (Kd.Rf (p := ⟨gb247, 0, none⟩) (Kd.R_mono HO_5.out (fun k_ hk => (⟨hk, hk⟩ : _ ∧ k_ ≠ gb247))) (fun _ hk => hk.2) (.int .i64 (wrap64 ((wrap64 (x7_1 + 1)) + t240)))) (fun _ hk => hk.2) (.int .i64 (rd t235 (ji14)))) (fun _ hk => hk.2) (.int .i64 (-1))) (fun _ hk => hk.2) (.bool t244)) (fun _ h_ => h_.1))) hb); have n1_ := Aside0.mk (Kd.R_elder' (by (with_reducible repeat (first | apply Kd.Ra | apply Kd.Rn | apply Kd.Rd)); exact (Kd.R_mono (Kd.Rf (p := ⟨gb247, 3, none⟩) (Kd.Rf (p := ⟨gb247, 2, none⟩) (Kd.Rf (p := ⟨gb247, 1, none⟩) (Kd.Rf (p := ⟨gb247, 0, none⟩) (Kd.R_types HO_6.out BK247.out (by decide)) (fun _ hk => hk.2) (.int .i64 (wrap64 ((wrap64 (x7_1 + 1)) + t240)))) (fun _ hk => hk.2) (.int .i64 (rd t235 (ji14)))) (fun _ hk => hk.2) (.int .i64 (-1))) (fun _ hk => hk.2) (.bool t244)) (fun _ h_ => h_.1))) (Kd.R_base ho0) hb); have n2_ := Aside0.mk (Kd.R_lower (Kd.R_new' ho0 (Kd.R_lt (by (with_reducible repeat (first | apply Kd.Ra | apply Kd.Rn | apply Kd.Rd)); exact (Kd.R_mono (Kd.Rf (p := ⟨gb247, 3, none⟩) (Kd.Rf (p := ⟨gb247, 2, none⟩) (Kd.Rf (p := ⟨gb247, 1, none⟩) (Kd.Rf (p := ⟨gb247, 0, none⟩) (Kd.R_types HO_6.out BK247.out (by decide)) (fun _ hk => hk.2) (.int .i64 (wrap64 ((wrap64 (x7_1 + 1)) + t240)))) (fun _ hk => hk.2) (.int .i64 (rd t235 (ji14)))) (fun _ hk => hk.2) (.int .i64 (-1))) (fun _ hk => hk.2) (.bool t244)) (fun _ h_ => h_.1))))) (keep_size (w := w) (g := g) (row := none) (by repeat (first | (with_reducible first | exact HK.out | apply KeepBut.set_ | apply keep_drewN | apply keep_drew | apply keep_alloc | refine keep_far ?_ GW228.out _ | refine keep_far ?_ GW247.out _) | exact HK.out)))); have n3_ := Aside0.mk (bb (g := gb228) (o := .cells #[.int .i64 a1_0, .int .i64 a1_1, .string a1_2] 27 (0, 0)) (by (with_reducible repeat first | apply bN | apply bd | apply ba); refine blk_far ?_ NB228_247.out _; (with_reducible repeat first | apply bN | apply bd | apply ba); refine blk_far ?_ NB228_247.out _; (with_reducible repeat first | apply bN | apply bd | apply ba); refine blk_far ?_ NB228_247.out _; (with_reducible repeat first | apply bN | apply bd | apply ba); refine blk_far ?_ NB228_247.out _; (with_reducible repeat first | apply bN | apply bd | apply ba); exact BK228.out) hb); have n4_ := Aside0.mk (IsS169.below (show IsS169 w0 _ g s0_0 t245 t246 from by repeat (first | (with_reducible first | exact HI0.out | apply IsS169.alloc | apply IsS169.drewN | apply IsS169.drew | apply IsS169.set_1 | apply IsS169.set_2 | refine IsS169.far ?_ NB0_228.out _ | refine IsS169.far ?_ NB0_247.out _) | exact HI0.out)) hb); have n5_ := Aside0.mk (bb (g := gb247) (o := .cells #[.int .i64 (wrap64 ((wrap64 (x7_1 + 1)) + t240)), .int .i64 (rd t235 (ji14)), .int .i64 (-1), .bool t244] 84 (0, 0)) (by (with_reducible repeat first | apply bN | apply bd | apply ba); refine blk_put (cs := #[.int .i64 (wrap64 ((wrap64 (x7_1 + 1)) + t240)), .int .i64 (rd t235 (ji14)), .int .i64 (-1), .bool false]) ?_ 3 _ rfl; (with_reducible repeat first | apply bN | apply bd | apply ba); refine blk_put (cs := #[.int .i64 (wrap64 ((wrap64 (x7_1 + 1)) + t240)), .int .i64 (rd t235 (ji14)), .int .i64 0, .bool false]) ?_ 2 _ rfl; (with_reducible repeat first | apply bN | apply bd | apply ba); refine blk_put (cs := #[.int .i64 (wrap64 ((wrap64 (x7_1 + 1)) + t240)), .int .i64 0, .int .i64 0, .bool false]) ?_ 1 _ rfl; (with_reducible repeat first | apply bN | apply bd | apply ba); refine blk_put (cs := #[.int .i64 0, .int .i64 0, .int .i64 0, .bool false]) ?_ 0 _ rfl; (with_reducible repeat first | apply bN | apply bd | apply ba); exact BK247.out) hb); have n6_ := Aside0.mk (KeepBut.trans (by repeat (first | (with_reducible first | exact HK.out | apply KeepBut.set_ | apply keep_drewN | apply keep_drew | apply keep_alloc | refine keep_far ?_ GW228.out _ | refine keep_far ?_ GW247.out _) | exact HK.out)) (KeepBut.of_below hb g none) (.inl rfl)); have n7_ := Aside0.mk (below_step (by repeat (first | (with_reducible first | exact HB.out | apply wa | apply wN | apply wd | refine ws ?_ (IsS169.ge HI0.out) | refine ws ?_ GE228.out | refine ws ?_ GE247.out) | exact HB.out)) hb); clear HO_5; clear HO_6; clear BK228; clear HI0; clear BK247; clear HK; clear HB; have HO_5 := n0_; have HO_6 := n1_; have HO251 := n2_; have BK228 := n3_; have HI0 := n4_; have BK247 := n5_; have HK := n6_; have HB := n7_; clear n0_ n1_ n2_ n3_ n4_ n5_ n6_ n7_; (try clear hb); (try clear hb2); (try clear hk); (try clear hi); (try clear ho0)))
      (try simp only [Act.put, List.setIfInBounds_toArray, List.set_cons_zero, List.set_cons_succ])
      go_cut [57] (fun v57 wc => ∃ (kq : Nat) (x57_34 : Bool) (x1001_34 : Int) (x1002_34 : Int), v57 = .bool x57_34 ∧ Aside0 (spec_l20Right.j1 kq x5_1 t235 (wrap64 ((wrap64 (x7_1 + 1)) + t240)) x8_1 t249 x57_34 s0_0 x1001_34 x1002_34 a1_0 a1_1 a1_2 (wrap64 ((wrap64 (x7_1 + 1)) + t240)) (rd t235 (ji14)) (-1) t244 = some (r1, r2, r3)) ∧ Aside0 (kq ≤ k1) ∧ Aside0 (Kd.R k84 84 wc w.heap.size (fun k_ => k_ ≠ gb247) (.slice Ao49 x5_1.length co49) x5_1) ∧ Aside0 (Kd.R (Kd.int .i64) 3 wc w.heap.size (fun k_ => some k_ ≠ (v250 : Value).ownBlock) (.slice (some ad243) t235.length co36) t235) ∧ Aside0 (Kd.R (Kd.int .i64) 3 wc w.heap.size (fun k_ => some k_ ≠ ((.slice (some ad243) t235.length co36) : Value).ownBlock) v250 t249) ∧ Aside0 (wc.heap[gb228]? = some (.cells #[.int .i64 a1_0, .int .i64 a1_1, .string a1_2] 27 (0, 0))) ∧ Aside0 (wc.heap[gb247]? = some (.cells #[.int .i64 (wrap64 ((wrap64 (x7_1 + 1)) + t240)), .int .i64 (rd t235 (ji14)), .int .i64 (-1), .bool t244] 84 (0, 0))) ∧ Aside0 (IsS169 w0 wc g s0_0 x1001_34 x1002_34) ∧ Aside0 (KeepBut w wc g none) ∧ Aside0 (Below w0.heap.size w0 wc))
      case first =>
        have H := HC35.out
        clear HC35
        by_cases c53 : (t249.length : Int) > 0
        rotate_left
        · rw [if_neg c53] at H
          have c53b0 : decide (0 < (t249.length : Int)) = false := decide_eq_false c53
          have c53b1 : decide (0 < t249.length) = false := decide_eq_false (by omega)
          clear c53
          (first | rw [c53b0] | (simp only [i64_w, i32_w]; rw [c53b0]) | skip)
          have H' := Aside0.mk H
          clear H
          obtain ⟨Ao57, co57, eo57⟩ := Kd.R_slice HO251.out
          subst eo57
          go_wp2
          go_meet
          case rel => exact ⟨_, (false), (t245), (t246), (by first | rfl | (simp; done) | (simp [*]; done)), H', ⟨by have := HK1.out; first | omega | exact Nat.le_refl _⟩, ⟨by (with_reducible repeat (first | apply Kd.Ra | apply Kd.Rn | apply Kd.Rd)); exact HO_5.out⟩, ⟨by (with_reducible repeat (first | apply Kd.Ra | apply Kd.Rn | apply Kd.Rd)); exact Kd.R_mono HO_6.out (fun _ hk => hk.2)⟩, ⟨by (with_reducible repeat (first | apply Kd.Ra | apply Kd.Rn | apply Kd.Rd)); exact Kd.R_mono HO251.out (fun _ hk => hk.2)⟩, ⟨by (with_reducible repeat first | apply bN | apply bd | apply ba); exact BK228.out⟩, ⟨by (with_reducible repeat first | apply bN | apply bd | apply ba); exact BK247.out⟩, ⟨by repeat (first | (with_reducible first | exact HI0.out | apply IsS169.alloc | apply IsS169.drewN | apply IsS169.drew | apply IsS169.set_1 | apply IsS169.set_2 | refine IsS169.far ?_ NB0_228.out _ | refine IsS169.far ?_ NB0_247.out _) | exact HI0.out)⟩, ⟨by repeat (first | (with_reducible first | exact HK.out | apply KeepBut.set_ | apply keep_drewN | apply keep_drew | apply keep_alloc | refine keep_far ?_ GW228.out _ | refine keep_far ?_ GW247.out _) | exact HK.out)⟩, ⟨by repeat (first | (with_reducible first | exact HB.out | apply wa | apply wN | apply wd | refine ws ?_ (IsS169.ge HI0.out) | refine ws ?_ GE228.out | refine ws ?_ GE247.out) | exact HB.out)⟩⟩
        rw [if_pos c53] at H
        have c53b0 : decide (0 < (t249.length : Int)) = true := decide_eq_true c53
        have c53b1 : decide (0 < t249.length) = true := decide_eq_true (by omega)
        clear c53
        (first | rw [c53b0] | (simp only [i64_w, i32_w]; rw [c53b0]) | skip)
        replace H := Option.bind_eq_some_iff.mp H
        obtain ⟨⟨t252, t253, t254⟩, A540, H⟩ := H
        replace H : (spec_l20Right.j1 k1 x5_1 t235 (wrap64 ((wrap64 (x7_1 + 1)) + t240)) x8_1 t249 t252 s0_0 t253 t254 a1_0 a1_1 a1_2 (wrap64 ((wrap64 (x7_1 + 1)) + t240)) (rd t235 (ji14)) (-1) t244) = some (r1, r2, r3) := H
        have A54 := Aside0.mk A540
        clear A540
        have H' := Aside0.mk H
        clear H
        obtain ⟨Ao55, co55, eo55⟩ := Kd.R_slice HO251.out
        subst eo55
        go_wp2_with (first | (go_at_call 132; (with_reducible refine (spec_l01Once.calls g s0_0 t245 t246 4 t252 t253 t254 w0 _ ?side1 ?side2 A54.out).mono ?_); (case side1 => repeat (first | (with_reducible first | exact HI0.out | apply IsS169.alloc | apply IsS169.drewN | apply IsS169.drew | apply IsS169.set_1 | apply IsS169.set_2 | refine IsS169.far ?_ NB0_228.out _ | refine IsS169.far ?_ NB0_247.out _) | exact HI0.out)); (case side2 => repeat (first | (with_reducible first | exact HB.out | apply wa | apply wN | apply wd | refine ws ?_ (IsS169.ge HI0.out) | refine ws ?_ GE228.out | refine ws ?_ GE247.out) | exact HB.out)); rintro e w56 ⟨rfl, hi, hb, hk⟩; have n0_ := Aside0.mk (Kd.R_mono (Kd.R_keep (IsS169.apart (show IsS169 w0 _ g s0_0 t245 t246 from by repeat (first | (with_reducible first | exact HI0.out | apply IsS169.alloc | apply IsS169.drewN | apply IsS169.drew | apply IsS169.set_1 | apply IsS169.set_2 | refine IsS169.far ?_ NB0_228.out _ | refine IsS169.far ?_ NB0_247.out _) | exact HI0.out)) (by (with_reducible repeat (first | apply Kd.Ra | apply Kd.Rn | apply Kd.Rd)); exact HO_5.out) (by decide)) hk (fun _ h => h.2)) (fun _ h => h.1)); have n1_ := Aside0.mk (Kd.R_mono (Kd.R_keep (IsS169.apart (show IsS169 w0 _ g s0_0 t245 t246 from by repeat (first | (with_reducible first | exact HI0.out | apply IsS169.alloc | apply IsS169.drewN | apply IsS169.drew | apply IsS169.set_1 | apply IsS169.set_2 | refine IsS169.far ?_ NB0_228.out _ | refine IsS169.far ?_ NB0_247.out _) | exact HI0.out)) (by (with_reducible repeat (first | apply Kd.Ra | apply Kd.Rn | apply Kd.Rd)); exact HO_6.out) (by decide)) hk (fun _ h => h.2)) (fun _ h => h.1)); have n2_ := Aside0.mk (KeepBut.blk hk (g' := gb228) (by (with_reducible repeat first | apply bN | apply bd | apply ba); exact BK228.out) NB228_0.out (by simp)); have n3_ := Aside0.mk (KeepBut.blk hk (g' := gb247) (by (with_reducible repeat first | apply bN | apply bd | apply ba); exact BK247.out) NB247_0.out (by simp)); have n4_ := Aside0.mk (Kd.R_mono (Kd.R_keep (IsS169.apart (show IsS169 w0 _ g s0_0 t245 t246 from by repeat (first | (with_reducible first | exact HI0.out | apply IsS169.alloc | apply IsS169.drewN | apply IsS169.drew | apply IsS169.set_1 | apply IsS169.set_2 | refine IsS169.far ?_ NB0_228.out _ | refine IsS169.far ?_ NB0_247.out _) | exact HI0.out)) (by (with_reducible repeat (first | apply Kd.Ra | apply Kd.Rn | apply Kd.Rd)); exact HO251.out) (by decide)) hk (fun _ h => h.2)) (fun _ h => h.1)); have n5_ := Aside0.mk (KeepBut.trans (by repeat (first | (with_reducible first | exact HK.out | apply KeepBut.set_ | apply keep_drewN | apply keep_drew | apply keep_alloc | refine keep_far ?_ GW228.out _ | refine keep_far ?_ GW247.out _) | exact HK.out)) hk (.inl rfl)); have n6_ := Aside0.mk (hb); have n7_ := Aside0.mk (hi); clear HO_5; clear HO_6; clear BK228; clear BK247; clear HO251; clear HK; clear HB; clear HI0; have HO_5 := n0_; have HO_6 := n1_; have BK228 := n2_; have BK247 := n3_; have HO251 := n4_; have HK := n5_; have HB := n6_; have HI0 := n7_; clear n0_ n1_ n2_ n3_ n4_ n5_ n6_ n7_; (try clear hb); (try clear hb2); (try clear hk); (try clear hi)))
        go_meet
        case rel => exact ⟨_, (t252), (t253), (t254), (by first | rfl | (simp; done) | (simp [*]; done)), H', ⟨by have := HK1.out; first | omega | exact Nat.le_refl _⟩, ⟨by (with_reducible repeat (first | apply Kd.Ra | apply Kd.Rn | apply Kd.Rd)); exact HO_5.out⟩, ⟨by (with_reducible repeat (first | apply Kd.Ra | apply Kd.Rn | apply Kd.Rd)); exact Kd.R_mono HO_6.out (fun _ hk => hk.2)⟩, ⟨by (with_reducible repeat (first | apply Kd.Ra | apply Kd.Rn | apply Kd.Rd)); exact Kd.R_mono HO251.out (fun _ hk => hk.2)⟩, ⟨by (with_reducible repeat first | apply bN | apply bd | apply ba); exact BK228.out⟩, ⟨by (with_reducible repeat first | apply bN | apply bd | apply ba); exact BK247.out⟩, ⟨by repeat (first | (with_reducible first | exact HI0.out | apply IsS169.alloc | apply IsS169.drewN | apply IsS169.drew | apply IsS169.set_1 | apply IsS169.set_2 | refine IsS169.far ?_ NB0_228.out _ | refine IsS169.far ?_ NB0_247.out _) | exact HI0.out)⟩, ⟨by repeat (first | (with_reducible first | exact HK.out | apply KeepBut.set_ | apply keep_drewN | apply keep_drew | apply keep_alloc | refine keep_far ?_ GW228.out _ | refine keep_far ?_ GW247.out _) | exact HK.out)⟩, ⟨by repeat (first | (with_reducible first | exact HB.out | apply wa | apply wN | apply wd | refine ws ?_ (IsS169.ge HI0.out) | refine ws ?_ GE228.out | refine ws ?_ GE247.out) | exact HB.out)⟩⟩
      case rest =>
        clear HC35
        try clear c1
        try clear p2
        try clear q2
        try clear hx2
        try clear c3
        try clear c4
        try clear c5
        try clear p6
        try clear c13
        try clear c19
        try clear c19b0
        try clear p24
        try clear q24
        try clear hx24
        try clear c30
        try clear c31
        try clear c46
        try clear c47
        try clear c50
        try clear c53
        try clear c53b0
        try clear c53b1
        try clear hcz32_0
        try clear hcz32_1
        try clear hcz32_2
        try clear hcz32_3
        try clear hcz48_0
        try clear hcz48_1
        try clear hcz48_2
        try clear hcz48_3
        try clear hcz51_0
        try clear hcz51_1
        try clear hcz51_2
        try clear hfz32_0
        try clear hfz32_1
        try clear hfz32_2
        try clear hfz32_3
        try clear hfz48_0
        try clear hfz48_1
        try clear hfz48_2
        try clear hfz48_3
        try clear hx243_0
        try clear p243
        try clear q243
        obtain ⟨kq, x57_34, x1001_34, x1002_34, rfl, HA, HJ34, HO_5, HO_6, HO_10, BK228, BK247, HI0, HK, HB⟩ := hcut
        cases kq with
        | zero => exact absurd HA.out (by simp [spec_l20Right.j1])
        | succ kj34 =>
          have H := HA.out
          clear HA
          simp only [spec_l20Right.j1] at H
          by_cases c58 : x57_34 = true
          rotate_left
          · replace c58 := Bool.eq_false_iff.mpr c58
            subst c58
            have H1 : (if x5_1.length < 4398046511104 then (spec_l20Right.l0 kj34 (x5_1 ++ [(⟨(wrap64 ((wrap64 (x7_1 + 1)) + t240)), (rd t235 (ji14)), (-1), t244⟩ : S84)]) t235 (wrap64 ((wrap64 (x7_1 + 1)) + t240)) (wrap64 (x8_1 + 1)) s0_0 x1001_34 x1002_34 a1_0 a1_1 a1_2) else (none)) = some (r1, r2, r3) := by rw [if_neg (show ¬ (false = true) by decide)] at H; exact H
            clear H
            have H := H1
            clear H1
            by_cases c87 : x5_1.length < 4398046511104
            rotate_left
            · rw [if_neg c87] at H
              exact absurd H (by simp)
            rw [if_pos c87] at H
            have LMc87 := Aside0.mk c87
            clear c87
            obtain ⟨y270, hy270⟩ : ∃ y_ : List (S84), y_ = (x5_1 ++ [(⟨(wrap64 ((wrap64 (x7_1 + 1)) + t240)), (rd t235 (ji14)), (-1), t244⟩ : S84)]) := ⟨_, rfl⟩
            replace H : (spec_l20Right.l0 kj34 y270 t235 (wrap64 ((wrap64 (x7_1 + 1)) + t240)) (wrap64 (x8_1 + 1)) s0_0 x1001_34 x1002_34 a1_0 a1_1 a1_2) = some (r1, r2, r3) := by first | (rw [hy270]; with_reducible exact H) | (have H2_ := (Option.bind_some _ _).symm.trans H; rw [hy270]; with_reducible exact H2_) | (have H2_ := (Option.bind_some _ _).symm.trans H; with_reducible exact H2_) | with_reducible exact H | (rw [hy270]; exact H) | exact H
            have Ny270 := Aside0.mk hy270
            clear hy270
            have H' := Aside0.mk H
            clear H
            have hnb88 := NB247_228.out
            have hnc88 := NB228_247.out
            have hnb89 := NB247_0.out
            have hnc89 := NB0_247.out
            have hcz90_0 : wc.cell? ⟨gb247, 0, none⟩ = some (.int .i64 (wrap64 ((wrap64 (x7_1 + 1)) + t240))) := (bc BK247.out 0).trans rfl
            have hcz90_1 : wc.cell? ⟨gb247, 1, none⟩ = some (.int .i64 (rd t235 (ji14))) := (bc BK247.out 1).trans rfl
            have hcz90_2 : wc.cell? ⟨gb247, 2, none⟩ = some (.int .i64 (-1)) := (bc BK247.out 2).trans rfl
            have hcz90_3 : wc.cell? ⟨gb247, 3, none⟩ = some (.bool t244) := (bc BK247.out 3).trans rfl
            have hfz90_0 := bz BK247.out 0
            have hfz90_1 := bz BK247.out 1
            have hfz90_2 := bz BK247.out 2
            have hfz90_3 := bz BK247.out 3
            go_wp2_with (first | ((with_reducible refine gate_builtin (b := .append) (xs := #[.tmp 77, .tmp 79]) rfl ?_); at_builtin; refine Kd.R_append k84 w.heap.size rfl (.tmp 77) (.tmp 79) 30 84 (.agg #[(.int .i64 0), (.int .i64 0), (.int .i64 0), (.bool false)]) 32 rfl Try.underlying30 info84 rfl (by decide) (by omega) (.slice Ao49 x5_1.length co49) x5_1 (⟨(wrap64 ((wrap64 (x7_1 + 1)) + t240)), (rd t235 (ji14)), (-1), t244⟩ : S84) [.int .i64 (wrap64 ((wrap64 (x7_1 + 1)) + t240)), .int .i64 (rd t235 (ji14)), .int .i64 (-1), .bool t244] (fun k_ => k_ ≠ gb247) (fun _ => False) rfl rfl ?aP (fun _ hk => hk.elim) ?aF ?aO (Below.refl _ _) ?aS ?aL ?_; (case aP => exact k84_mkM _ _ _ (⟨(wrap64 ((wrap64 (x7_1 + 1)) + t240)), (rd t235 (ji14)), (-1), t244⟩ : S84)); (case aF => exact (fun k_ hk => Kd.freshB (g := gb247) (by (with_reducible repeat first | apply bN | apply bd | apply ba); exact BK247.out) k_ hk)); (case aO => exact (by (with_reducible repeat (first | apply Kd.Ra | apply Kd.Rn | apply Kd.Rd)); exact HO_5.out)); (case aS => exact (keep_size (w := w) (g := g) (row := none) (by repeat (first | (with_reducible first | exact HK.out | apply KeepBut.set_ | apply keep_drewN | apply keep_drew | apply keep_alloc | refine keep_far ?_ GW228.out _ | refine keep_far ?_ GW247.out _) | exact HK.out)))); (case aL => have := LMc87.out; omega); intro v271 w91 ho hb hg hat; rw [← Ny270.out] at ho; have n0_ := Aside0.mk (Kd.R_over' (by (with_reducible repeat (first | apply Kd.Ra | apply Kd.Rn | apply Kd.Rd)); exact HO_6.out) (Kd.R_typed (by (with_reducible repeat (first | apply Kd.Ra | apply Kd.Rn | apply Kd.Rd)); exact HO_5.out)) (by decide) hg); have n1_ := Aside0.mk (Kd.R_over' (by (with_reducible repeat (first | apply Kd.Ra | apply Kd.Rn | apply Kd.Rd)); exact HO_10.out) (Kd.R_typed (by (with_reducible repeat (first | apply Kd.Ra | apply Kd.Rn | apply Kd.Rd)); exact HO_5.out)) (by decide) hg); have n2_ := Aside0.mk (blk_grown (g := gb228) (by (with_reducible repeat first | apply bN | apply bd | apply ba); exact BK228.out) hg (Kd.R_ne HO_5.out BK228.out (by decide))); have n3_ := Aside0.mk (blk_grown (g := gb247) (by (with_reducible repeat first | apply bN | apply bd | apply ba); exact BK247.out) hg (Kd.R_away HO_5.out (fun _ hk => hk))); have n4_ := Aside0.mk (IsS169.grown (by repeat (first | (with_reducible first | exact HI0.out | apply IsS169.alloc | apply IsS169.drewN | apply IsS169.drew | apply IsS169.set_1 | apply IsS169.set_2 | refine IsS169.far ?_ NB0_228.out _ | refine IsS169.far ?_ NB0_247.out _) | exact HI0.out)) hg (IsS169.own_ne HI0.out HO_5.out (by decide))); have n5_ := Aside0.mk (below_weaken (by repeat (first | (with_reducible first | exact HB.out | apply wa | apply wN | apply wd | refine ws ?_ (IsS169.ge HI0.out) | refine ws ?_ GE228.out | refine ws ?_ GE247.out) | exact HB.out)) HL.out hb); have n6_ := Aside0.mk (KeepBut.trans (by repeat (first | (with_reducible first | exact HK.out | apply KeepBut.set_ | apply keep_drewN | apply keep_drew | apply keep_alloc | refine keep_far ?_ GW228.out _ | refine keep_far ?_ GW247.out _) | exact HK.out)) (KeepBut.of_grown hg g) (Kd.R_base2 HO_5.out)); have n7_ := Aside0.mk (ho); clear HO_6; clear HO_10; clear BK228; clear BK247; clear HI0; clear HB; clear HK; clear HO_5; have HO_6 := n0_; have HO_10 := n1_; have BK228 := n2_; have BK247 := n3_; have HI0 := n4_; have HB := n5_; have HK := n6_; have HO272 := n7_; clear n0_ n1_ n2_ n3_ n4_ n5_ n6_ n7_; clear ho hb hg hat))
            go_roundg kj34
            case measure => have := HK1.out; have := HJ34.out; omega
            case rel => exact ⟨(y270), ((wrap64 ((wrap64 (x7_1 + 1)) + t240))), (wrap64 (x8_1 + 1)), (x1001_34), (x1002_34), (by first | rfl | (simp; done) | (simp [*]; done)), (by first | rfl | (simp; done) | (simp [*]; done)), H', ⟨by have := HK1.out; have := HJ34.out; omega⟩, ⟨by (with_reducible repeat (first | apply Kd.Ra | apply Kd.Rn | apply Kd.Rd)); exact Kd.R_mono HO272.out (fun _ hk => trivial)⟩, ⟨by (with_reducible repeat (first | apply Kd.Ra | apply Kd.Rn | apply Kd.Rd)); exact Kd.R_mono HO_6.out (fun _ hk => trivial)⟩, ⟨by (with_reducible repeat first | apply bN | apply bd | apply ba); exact BK228.out⟩, ⟨by repeat (first | (with_reducible first | exact HI0.out | apply IsS169.alloc | apply IsS169.drewN | apply IsS169.drew | apply IsS169.set_1 | apply IsS169.set_2 | refine IsS169.far ?_ NB0_228.out _ | refine IsS169.far ?_ NB0_247.out _) | exact HI0.out)⟩, ⟨by repeat (first | (with_reducible first | exact HK.out | apply KeepBut.set_ | apply keep_drewN | apply keep_drew | apply keep_alloc | refine keep_far ?_ GW228.out _ | refine keep_far ?_ GW247.out _) | exact HK.out)⟩, ⟨by repeat (first | (with_reducible first | exact HB.out | apply wa | apply wN | apply wd | refine ws ?_ (IsS169.ge HI0.out) | refine ws ?_ GE228.out | refine ws ?_ GE247.out) | exact HB.out)⟩⟩
          subst c58
          have H1 : ((spec_l01Below.f s0_0 x1001_34 x1002_34 (t249.length : Int)).bind fun bt255 => (if 0 ≤ bt255.1 then (if bt255.1 < (t249.length : Int) then ((spec_HolderOf.f kj34 x5_1 (rd t249 bt255.1)).bind fun t259 => (if t259 < 0 then ((spec_l03Has.f kj34 t235 (rd t249 bt255.1)).bind fun t260 => (if t260 = true then (if x5_1.length < 4398046511104 then (spec_l20Right.l0 kj34 (x5_1 ++ [(⟨(wrap64 ((wrap64 (x7_1 + 1)) + t240)), (rd t235 (ji14)), (-1), t244⟩ : S84)]) t235 (wrap64 ((wrap64 (x7_1 + 1)) + t240)) (wrap64 (x8_1 + 1)) s0_0 bt255.2.1 bt255.2.2 a1_0 a1_1 a1_2) else (none)) else (if x5_1.length < 4398046511104 then (spec_l20Right.l0 kj34 (x5_1 ++ [(⟨(wrap64 ((wrap64 (x7_1 + 1)) + t240)), (rd t235 (ji14)), rd t249 bt255.1, t244⟩ : S84)]) t235 (wrap64 ((wrap64 (x7_1 + 1)) + t240)) (wrap64 (x8_1 + 1)) s0_0 bt255.2.1 bt255.2.2 a1_0 a1_1 a1_2) else (none)))) else (if x5_1.length < 4398046511104 then (spec_l20Right.l0 kj34 (x5_1 ++ [(⟨(wrap64 ((wrap64 (x7_1 + 1)) + t240)), (rd t235 (ji14)), (-1), t244⟩ : S84)]) t235 (wrap64 ((wrap64 (x7_1 + 1)) + t240)) (wrap64 (x8_1 + 1)) s0_0 bt255.2.1 bt255.2.2 a1_0 a1_1 a1_2) else (none)))) else (none)) else (none))) = some (r1, r2, r3) := by rw [if_pos rfl] at H; exact H
          clear H
          have H := H1
          clear H1
          replace H := Option.bind_eq_some_iff.mp H
          obtain ⟨⟨t255, t256, t257⟩, A590, H⟩ := H
          replace H : (if 0 ≤ t255 then (if t255 < (t249.length : Int) then ((spec_HolderOf.f kj34 x5_1 (rd t249 t255)).bind fun t259 => (if t259 < 0 then ((spec_l03Has.f kj34 t235 (rd t249 t255)).bind fun t260 => (if t260 = true then (if x5_1.length < 4398046511104 then (spec_l20Right.l0 kj34 (x5_1 ++ [(⟨(wrap64 ((wrap64 (x7_1 + 1)) + t240)), (rd t235 (ji14)), (-1), t244⟩ : S84)]) t235 (wrap64 ((wrap64 (x7_1 + 1)) + t240)) (wrap64 (x8_1 + 1)) s0_0 t256 t257 a1_0 a1_1 a1_2) else (none)) else (if x5_1.length < 4398046511104 then (spec_l20Right.l0 kj34 (x5_1 ++ [(⟨(wrap64 ((wrap64 (x7_1 + 1)) + t240)), (rd t235 (ji14)), rd t249 t255, t244⟩ : S84)]) t235 (wrap64 ((wrap64 (x7_1 + 1)) + t240)) (wrap64 (x8_1 + 1)) s0_0 t256 t257 a1_0 a1_1 a1_2) else (none)))) else (if x5_1.length < 4398046511104 then (spec_l20Right.l0 kj34 (x5_1 ++ [(⟨(wrap64 ((wrap64 (x7_1 + 1)) + t240)), (rd t235 (ji14)), (-1), t244⟩ : S84)]) t235 (wrap64 ((wrap64 (x7_1 + 1)) + t240)) (wrap64 (x8_1 + 1)) s0_0 t256 t257 a1_0 a1_1 a1_2) else (none)))) else (none)) else (none)) = some (r1, r2, r3) := H
          have A59 := Aside0.mk A590
          clear A590
          by_cases c60 : 0 ≤ t255
          rotate_left
          · rw [if_neg c60] at H
            exact absurd H (by simp)
          rw [if_pos c60] at H
          have c60b0 : decide (0 ≤ t255) = true := decide_eq_true c60
          clear c60
          by_cases c61 : t255 < (t249.length : Int)
          rotate_left
          · rw [if_neg c61] at H
            exact absurd H (by simp)
          rw [if_pos c61] at H
          have c61b0 : decide (t255 < (t249.length : Int)) = true := decide_eq_true c61
          clear c61
          replace H := Option.bind_eq_some_iff.mp H
          obtain ⟨t259, A620, H⟩ := H
          replace H : (if t259 < 0 then ((spec_l03Has.f kj34 t235 (rd t249 t255)).bind fun t260 => (if t260 = true then (if x5_1.length < 4398046511104 then (spec_l20Right.l0 kj34 (x5_1 ++ [(⟨(wrap64 ((wrap64 (x7_1 + 1)) + t240)), (rd t235 (ji14)), (-1), t244⟩ : S84)]) t235 (wrap64 ((wrap64 (x7_1 + 1)) + t240)) (wrap64 (x8_1 + 1)) s0_0 t256 t257 a1_0 a1_1 a1_2) else (none)) else (if x5_1.length < 4398046511104 then (spec_l20Right.l0 kj34 (x5_1 ++ [(⟨(wrap64 ((wrap64 (x7_1 + 1)) + t240)), (rd t235 (ji14)), rd t249 t255, t244⟩ : S84)]) t235 (wrap64 ((wrap64 (x7_1 + 1)) + t240)) (wrap64 (x8_1 + 1)) s0_0 t256 t257 a1_0 a1_1 a1_2) else (none)))) else (if x5_1.length < 4398046511104 then (spec_l20Right.l0 kj34 (x5_1 ++ [(⟨(wrap64 ((wrap64 (x7_1 + 1)) + t240)), (rd t235 (ji14)), (-1), t244⟩ : S84)]) t235 (wrap64 ((wrap64 (x7_1 + 1)) + t240)) (wrap64 (x8_1 + 1)) s0_0 t256 t257 a1_0 a1_1 a1_2) else (none))) = some (r1, r2, r3) := H
          have A62 := Aside0.mk A620
          clear A620
          by_cases c63 : t259 < 0
          rotate_left
          · rw [if_neg c63] at H
            have c63b0 : decide (t259 < 0) = false := decide_eq_false c63
            clear c63
            by_cases c80 : x5_1.length < 4398046511104
            rotate_left
            · rw [if_neg c80] at H
              exact absurd H (by simp)
            rw [if_pos c80] at H
            have LMc80 := Aside0.mk c80
            clear c80
            obtain ⟨y267, hy267⟩ : ∃ y_ : List (S84), y_ = (x5_1 ++ [(⟨(wrap64 ((wrap64 (x7_1 + 1)) + t240)), (rd t235 (ji14)), (-1), t244⟩ : S84)]) := ⟨_, rfl⟩
            replace H : (spec_l20Right.l0 kj34 y267 t235 (wrap64 ((wrap64 (x7_1 + 1)) + t240)) (wrap64 (x8_1 + 1)) s0_0 t256 t257 a1_0 a1_1 a1_2) = some (r1, r2, r3) := by first | (rw [hy267]; with_reducible exact H) | (have H2_ := (Option.bind_some _ _).symm.trans H; rw [hy267]; with_reducible exact H2_) | (have H2_ := (Option.bind_some _ _).symm.trans H; with_reducible exact H2_) | with_reducible exact H | (rw [hy267]; exact H) | exact H
            have Ny267 := Aside0.mk hy267
            clear hy267
            have H' := Aside0.mk H
            clear H
            obtain ⟨Ao81, co81, eo81⟩ := Kd.R_slice HO_10.out
            subst eo81
            go_wp2_with (first | ((with_reducible refine gate_callee (f := 130) rfl ?_); refine goesL_ (some 62) rfl rfl Try.func130 (by kernel_rfl) rfl #[.pointer (some ⟨g, 0, none⟩), .int .i64 (t249.length : Int)] rfl (by (try simp only [List.map_toArray, List.map_cons, List.map_nil]); first | done | rfl | (simp only [List.length_drop, List.length_take]; rfl)) ?_; (with_reducible refine (spec_l01Below.calls g s0_0 x1001_34 x1002_34 (t249.length : Int) t255 t256 t257 w0 _ ?side1 ?side2 A59.out).mono ?_); (case side1 => repeat (first | (with_reducible first | exact HI0.out | apply IsS169.alloc | apply IsS169.drewN | apply IsS169.drew | apply IsS169.set_1 | apply IsS169.set_2 | refine IsS169.far ?_ NB0_228.out _ | refine IsS169.far ?_ NB0_247.out _) | exact HI0.out)); (case side2 => repeat (first | (with_reducible first | exact HB.out | apply wa | apply wN | apply wd | refine ws ?_ (IsS169.ge HI0.out) | refine ws ?_ GE228.out | refine ws ?_ GE247.out) | exact HB.out)); rintro e w82 ⟨rfl, hi, hb, hk⟩; refine ⟨_, rfl, ?_⟩; have n0_ := Aside0.mk (Kd.R_mono (Kd.R_keep (IsS169.apart (show IsS169 w0 _ g s0_0 x1001_34 x1002_34 from by repeat (first | (with_reducible first | exact HI0.out | apply IsS169.alloc | apply IsS169.drewN | apply IsS169.drew | apply IsS169.set_1 | apply IsS169.set_2 | refine IsS169.far ?_ NB0_228.out _ | refine IsS169.far ?_ NB0_247.out _) | exact HI0.out)) (by (with_reducible repeat (first | apply Kd.Ra | apply Kd.Rn | apply Kd.Rd)); exact HO_5.out) (by decide)) hk (fun _ h => h.2)) (fun _ h => h.1)); have n1_ := Aside0.mk (Kd.R_mono (Kd.R_keep (IsS169.apart (show IsS169 w0 _ g s0_0 x1001_34 x1002_34 from by repeat (first | (with_reducible first | exact HI0.out | apply IsS169.alloc | apply IsS169.drewN | apply IsS169.drew | apply IsS169.set_1 | apply IsS169.set_2 | refine IsS169.far ?_ NB0_228.out _ | refine IsS169.far ?_ NB0_247.out _) | exact HI0.out)) (by (with_reducible repeat (first | apply Kd.Ra | apply Kd.Rn | apply Kd.Rd)); exact HO_6.out) (by decide)) hk (fun _ h => h.2)) (fun _ h => h.1)); have n2_ := Aside0.mk (Kd.R_mono (Kd.R_keep (IsS169.apart (show IsS169 w0 _ g s0_0 x1001_34 x1002_34 from by repeat (first | (with_reducible first | exact HI0.out | apply IsS169.alloc | apply IsS169.drewN | apply IsS169.drew | apply IsS169.set_1 | apply IsS169.set_2 | refine IsS169.far ?_ NB0_228.out _ | refine IsS169.far ?_ NB0_247.out _) | exact HI0.out)) (by (with_reducible repeat (first | apply Kd.Ra | apply Kd.Rn | apply Kd.Rd)); exact HO_10.out) (by decide)) hk (fun _ h => h.2)) (fun _ h => h.1)); have n3_ := Aside0.mk (KeepBut.blk hk (g' := gb228) (by (with_reducible repeat first | apply bN | apply bd | apply ba); exact BK228.out) NB228_0.out (by simp)); have n4_ := Aside0.mk (KeepBut.blk hk (g' := gb247) (by (with_reducible repeat first | apply bN | apply bd | apply ba); exact BK247.out) NB247_0.out (by simp)); have n5_ := Aside0.mk (KeepBut.trans (by repeat (first | (with_reducible first | exact HK.out | apply KeepBut.set_ | apply keep_drewN | apply keep_drew | apply keep_alloc | refine keep_far ?_ GW228.out _ | refine keep_far ?_ GW247.out _) | exact HK.out)) hk (.inl rfl)); have n6_ := Aside0.mk (hb); have n7_ := Aside0.mk (hi); clear HO_5; clear HO_6; clear HO_10; clear BK228; clear BK247; clear HK; clear HB; clear HI0; have HO_5 := n0_; have HO_6 := n1_; have HO_10 := n2_; have BK228 := n3_; have BK247 := n4_; have HK := n5_; have HB := n6_; have HI0 := n7_; clear n0_ n1_ n2_ n3_ n4_ n5_ n6_ n7_; (try clear hb); (try clear hb2); (try clear hk); (try clear hi); have p258 : 0 ≤ (t255 : Int) := of_decide_eq_true (by first | (with_reducible assumption) | assumption); have q258 : t255 < (t249.length : Int) := of_decide_eq_true (by first | (with_reducible assumption) | assumption); obtain ⟨ad258, e258, hx258_0⟩ := Kd.at_int (Kd.R_reads' HO_10.out).2.2 t255 p258 q258; cases e258; replace p258 := eq_true p258; replace q258 := eq_true q258) | ((with_reducible refine gate_callee (f := 133) rfl ?_); refine goesL_ (some 67) rfl rfl Try.func133 (by kernel_rfl) rfl #[.slice Ao49 x5_1.length co49, .int .i64 (rd t249 t255)] rfl (by (try simp only [List.map_toArray, List.map_cons, List.map_nil]); first | done | rfl | (simp only [List.length_drop, List.length_take]; rfl)) ?_; (with_reducible refine (spec_HolderOf.calls kj34 _ _ x5_1 (rd t249 t255) t259 _ ?side1 ?side2 A62.out).mono ?_); (case side1 => repeat (first | exact (Kd.R_reads' HO_5.out).2.2 | (with_reducible refine Kd.Ca ?_ _) | (with_reducible refine Kd.Cn ?_ _) | (with_reducible refine Kd.Cd ?_))); (case side2 => exact (Kd.R_reads' HO_5.out).2.1); rintro e w' ⟨rfl, ⟨nd, rfl⟩⟩; refine ⟨_, rfl, ?_⟩; have hnb83 := NB247_228.out; have hnc83 := NB228_247.out; have hnb84 := NB247_0.out; have hnc84 := NB0_247.out; have hcz85_0 : w82.cell? ⟨gb247, 0, none⟩ = some (.int .i64 (wrap64 ((wrap64 (x7_1 + 1)) + t240))) := (bc BK247.out 0).trans rfl; have hcz85_1 : w82.cell? ⟨gb247, 1, none⟩ = some (.int .i64 (rd t235 (ji14))) := (bc BK247.out 1).trans rfl; have hcz85_2 : w82.cell? ⟨gb247, 2, none⟩ = some (.int .i64 (-1)) := (bc BK247.out 2).trans rfl; have hcz85_3 : w82.cell? ⟨gb247, 3, none⟩ = some (.bool t244) := (bc BK247.out 3).trans rfl; have hfz85_0 := bz BK247.out 0; have hfz85_1 := bz BK247.out 1; have hfz85_2 := bz BK247.out 2; have hfz85_3 := bz BK247.out 3) | ((with_reducible refine gate_builtin (b := .append) (xs := #[.tmp 77, .tmp 79]) rfl ?_); at_builtin; refine Kd.R_append k84 w.heap.size rfl (.tmp 77) (.tmp 79) 30 84 (.agg #[(.int .i64 0), (.int .i64 0), (.int .i64 0), (.bool false)]) 32 rfl Try.underlying30 info84 rfl (by decide) (by omega) (.slice Ao49 x5_1.length co49) x5_1 (⟨(wrap64 ((wrap64 (x7_1 + 1)) + t240)), (rd t235 (ji14)), (-1), t244⟩ : S84) [.int .i64 (wrap64 ((wrap64 (x7_1 + 1)) + t240)), .int .i64 (rd t235 (ji14)), .int .i64 (-1), .bool t244] (fun k_ => k_ ≠ gb247) (fun _ => False) rfl rfl ?aP (fun _ hk => hk.elim) ?aF ?aO (Below.refl _ _) ?aS ?aL ?_; (case aP => exact k84_mkM _ _ _ (⟨(wrap64 ((wrap64 (x7_1 + 1)) + t240)), (rd t235 (ji14)), (-1), t244⟩ : S84)); (case aF => exact (fun k_ hk => Kd.freshB (g := gb247) (by (with_reducible repeat first | apply bN | apply bd | apply ba); exact BK247.out) k_ hk)); (case aO => exact (by (with_reducible repeat (first | apply Kd.Ra | apply Kd.Rn | apply Kd.Rd)); exact HO_5.out)); (case aS => exact (keep_size (w := w) (g := g) (row := none) (by repeat (first | (with_reducible first | exact HK.out | apply KeepBut.set_ | apply keep_drewN | apply keep_drew | apply keep_alloc | refine keep_far ?_ GW228.out _ | refine keep_far ?_ GW247.out _) | exact HK.out)))); (case aL => have := LMc80.out; omega); intro v268 w86 ho hb hg hat; rw [← Ny267.out] at ho; have n0_ := Aside0.mk (Kd.R_over' (by (with_reducible repeat (first | apply Kd.Ra | apply Kd.Rn | apply Kd.Rd)); exact HO_6.out) (Kd.R_typed (by (with_reducible repeat (first | apply Kd.Ra | apply Kd.Rn | apply Kd.Rd)); exact HO_5.out)) (by decide) hg); have n1_ := Aside0.mk (Kd.R_over' (by (with_reducible repeat (first | apply Kd.Ra | apply Kd.Rn | apply Kd.Rd)); exact HO_10.out) (Kd.R_typed (by (with_reducible repeat (first | apply Kd.Ra | apply Kd.Rn | apply Kd.Rd)); exact HO_5.out)) (by decide) hg); have n2_ := Aside0.mk (blk_grown (g := gb228) (by (with_reducible repeat first | apply bN | apply bd | apply ba); exact BK228.out) hg (Kd.R_ne HO_5.out BK228.out (by decide))); have n3_ := Aside0.mk (blk_grown (g := gb247) (by (with_reducible repeat first | apply bN | apply bd | apply ba); exact BK247.out) hg (Kd.R_away HO_5.out (fun _ hk => hk))); have n4_ := Aside0.mk (IsS169.grown (by repeat (first | (with_reducible first | exact HI0.out | apply IsS169.alloc | apply IsS169.drewN | apply IsS169.drew | apply IsS169.set_1 | apply IsS169.set_2 | refine IsS169.far ?_ NB0_228.out _ | refine IsS169.far ?_ NB0_247.out _) | exact HI0.out)) hg (IsS169.own_ne HI0.out HO_5.out (by decide))); have n5_ := Aside0.mk (below_weaken (by repeat (first | (with_reducible first | exact HB.out | apply wa | apply wN | apply wd | refine ws ?_ (IsS169.ge HI0.out) | refine ws ?_ GE228.out | refine ws ?_ GE247.out) | exact HB.out)) HL.out hb); have n6_ := Aside0.mk (KeepBut.trans (by repeat (first | (with_reducible first | exact HK.out | apply KeepBut.set_ | apply keep_drewN | apply keep_drew | apply keep_alloc | refine keep_far ?_ GW228.out _ | refine keep_far ?_ GW247.out _) | exact HK.out)) (KeepBut.of_grown hg g) (Kd.R_base2 HO_5.out)); have n7_ := Aside0.mk (ho); clear HO_6; clear HO_10; clear BK228; clear BK247; clear HI0; clear HB; clear HK; clear HO_5; have HO_6 := n0_; have HO_10 := n1_; have BK228 := n2_; have BK247 := n3_; have HI0 := n4_; have HB := n5_; have HK := n6_; have HO269 := n7_; clear n0_ n1_ n2_ n3_ n4_ n5_ n6_ n7_; clear ho hb hg hat))
            go_roundg kj34
            case measure => have := HK1.out; have := HJ34.out; omega
            case rel => exact ⟨(y267), ((wrap64 ((wrap64 (x7_1 + 1)) + t240))), (wrap64 (x8_1 + 1)), (t256), (t257), (by first | rfl | (simp; done) | (simp [*]; done)), (by first | rfl | (simp; done) | (simp [*]; done)), H', ⟨by have := HK1.out; have := HJ34.out; omega⟩, ⟨by (with_reducible repeat (first | apply Kd.Ra | apply Kd.Rn | apply Kd.Rd)); exact Kd.R_mono HO269.out (fun _ hk => trivial)⟩, ⟨by (with_reducible repeat (first | apply Kd.Ra | apply Kd.Rn | apply Kd.Rd)); exact Kd.R_mono HO_6.out (fun _ hk => trivial)⟩, ⟨by (with_reducible repeat first | apply bN | apply bd | apply ba); exact BK228.out⟩, ⟨by repeat (first | (with_reducible first | exact HI0.out | apply IsS169.alloc | apply IsS169.drewN | apply IsS169.drew | apply IsS169.set_1 | apply IsS169.set_2 | refine IsS169.far ?_ NB0_228.out _ | refine IsS169.far ?_ NB0_247.out _) | exact HI0.out)⟩, ⟨by repeat (first | (with_reducible first | exact HK.out | apply KeepBut.set_ | apply keep_drewN | apply keep_drew | apply keep_alloc | refine keep_far ?_ GW228.out _ | refine keep_far ?_ GW247.out _) | exact HK.out)⟩, ⟨by repeat (first | (with_reducible first | exact HB.out | apply wa | apply wN | apply wd | refine ws ?_ (IsS169.ge HI0.out) | refine ws ?_ GE228.out | refine ws ?_ GE247.out) | exact HB.out)⟩⟩
          rw [if_pos c63] at H
          have c63b0 : decide (t259 < 0) = true := decide_eq_true c63
          clear c63
          replace H := Option.bind_eq_some_iff.mp H
          obtain ⟨t260, A640, H⟩ := H
          replace H : (if t260 = true then (if x5_1.length < 4398046511104 then (spec_l20Right.l0 kj34 (x5_1 ++ [(⟨(wrap64 ((wrap64 (x7_1 + 1)) + t240)), (rd t235 (ji14)), (-1), t244⟩ : S84)]) t235 (wrap64 ((wrap64 (x7_1 + 1)) + t240)) (wrap64 (x8_1 + 1)) s0_0 t256 t257 a1_0 a1_1 a1_2) else (none)) else (if x5_1.length < 4398046511104 then (spec_l20Right.l0 kj34 (x5_1 ++ [(⟨(wrap64 ((wrap64 (x7_1 + 1)) + t240)), (rd t235 (ji14)), rd t249 t255, t244⟩ : S84)]) t235 (wrap64 ((wrap64 (x7_1 + 1)) + t240)) (wrap64 (x8_1 + 1)) s0_0 t256 t257 a1_0 a1_1 a1_2) else (none))) = some (r1, r2, r3) := H
          have A64 := Aside0.mk A640
          clear A640
          by_cases c65 : t260 = true
          · subst c65
            have H1 : (if x5_1.length < 4398046511104 then (spec_l20Right.l0 kj34 (x5_1 ++ [(⟨(wrap64 ((wrap64 (x7_1 + 1)) + t240)), (rd t235 (ji14)), (-1), t244⟩ : S84)]) t235 (wrap64 ((wrap64 (x7_1 + 1)) + t240)) (wrap64 (x8_1 + 1)) s0_0 t256 t257 a1_0 a1_1 a1_2) else (none)) = some (r1, r2, r3) := by rw [if_pos rfl] at H; exact H
            clear H
            have H := H1
            clear H1
            by_cases c66 : x5_1.length < 4398046511104
            rotate_left
            · rw [if_neg c66] at H
              exact absurd H (by simp)
            rw [if_pos c66] at H
            have LMc66 := Aside0.mk c66
            clear c66
            obtain ⟨y261, hy261⟩ : ∃ y_ : List (S84), y_ = (x5_1 ++ [(⟨(wrap64 ((wrap64 (x7_1 + 1)) + t240)), (rd t235 (ji14)), (-1), t244⟩ : S84)]) := ⟨_, rfl⟩
            replace H : (spec_l20Right.l0 kj34 y261 t235 (wrap64 ((wrap64 (x7_1 + 1)) + t240)) (wrap64 (x8_1 + 1)) s0_0 t256 t257 a1_0 a1_1 a1_2) = some (r1, r2, r3) := by first | (rw [hy261]; with_reducible exact H) | (have H2_ := (Option.bind_some _ _).symm.trans H; rw [hy261]; with_reducible exact H2_) | (have H2_ := (Option.bind_some _ _).symm.trans H; with_reducible exact H2_) | with_reducible exact H | (rw [hy261]; exact H) | exact H
            have Ny261 := Aside0.mk hy261
            clear hy261
            have H' := Aside0.mk H
            clear H
            obtain ⟨Ao67, co67, eo67⟩ := Kd.R_slice HO_10.out
            subst eo67
            go_wp2_with (first | ((with_reducible refine gate_callee (f := 130) rfl ?_); refine goesL_ (some 62) rfl rfl Try.func130 (by kernel_rfl) rfl #[.pointer (some ⟨g, 0, none⟩), .int .i64 (t249.length : Int)] rfl (by (try simp only [List.map_toArray, List.map_cons, List.map_nil]); first | done | rfl | (simp only [List.length_drop, List.length_take]; rfl)) ?_; (with_reducible refine (spec_l01Below.calls g s0_0 x1001_34 x1002_34 (t249.length : Int) t255 t256 t257 w0 _ ?side1 ?side2 A59.out).mono ?_); (case side1 => repeat (first | (with_reducible first | exact HI0.out | apply IsS169.alloc | apply IsS169.drewN | apply IsS169.drew | apply IsS169.set_1 | apply IsS169.set_2 | refine IsS169.far ?_ NB0_228.out _ | refine IsS169.far ?_ NB0_247.out _) | exact HI0.out)); (case side2 => repeat (first | (with_reducible first | exact HB.out | apply wa | apply wN | apply wd | refine ws ?_ (IsS169.ge HI0.out) | refine ws ?_ GE228.out | refine ws ?_ GE247.out) | exact HB.out)); rintro e w68 ⟨rfl, hi, hb, hk⟩; refine ⟨_, rfl, ?_⟩; have n0_ := Aside0.mk (Kd.R_mono (Kd.R_keep (IsS169.apart (show IsS169 w0 _ g s0_0 x1001_34 x1002_34 from by repeat (first | (with_reducible first | exact HI0.out | apply IsS169.alloc | apply IsS169.drewN | apply IsS169.drew | apply IsS169.set_1 | apply IsS169.set_2 | refine IsS169.far ?_ NB0_228.out _ | refine IsS169.far ?_ NB0_247.out _) | exact HI0.out)) (by (with_reducible repeat (first | apply Kd.Ra | apply Kd.Rn | apply Kd.Rd)); exact HO_5.out) (by decide)) hk (fun _ h => h.2)) (fun _ h => h.1)); have n1_ := Aside0.mk (Kd.R_mono (Kd.R_keep (IsS169.apart (show IsS169 w0 _ g s0_0 x1001_34 x1002_34 from by repeat (first | (with_reducible first | exact HI0.out | apply IsS169.alloc | apply IsS169.drewN | apply IsS169.drew | apply IsS169.set_1 | apply IsS169.set_2 | refine IsS169.far ?_ NB0_228.out _ | refine IsS169.far ?_ NB0_247.out _) | exact HI0.out)) (by (with_reducible repeat (first | apply Kd.Ra | apply Kd.Rn | apply Kd.Rd)); exact HO_6.out) (by decide)) hk (fun _ h => h.2)) (fun _ h => h.1)); have n2_ := Aside0.mk (Kd.R_mono (Kd.R_keep (IsS169.apart (show IsS169 w0 _ g s0_0 x1001_34 x1002_34 from by repeat (first | (with_reducible first | exact HI0.out | apply IsS169.alloc | apply IsS169.drewN | apply IsS169.drew | apply IsS169.set_1 | apply IsS169.set_2 | refine IsS169.far ?_ NB0_228.out _ | refine IsS169.far ?_ NB0_247.out _) | exact HI0.out)) (by (with_reducible repeat (first | apply Kd.Ra | apply Kd.Rn | apply Kd.Rd)); exact HO_10.out) (by decide)) hk (fun _ h => h.2)) (fun _ h => h.1)); have n3_ := Aside0.mk (KeepBut.blk hk (g' := gb228) (by (with_reducible repeat first | apply bN | apply bd | apply ba); exact BK228.out) NB228_0.out (by simp)); have n4_ := Aside0.mk (KeepBut.blk hk (g' := gb247) (by (with_reducible repeat first | apply bN | apply bd | apply ba); exact BK247.out) NB247_0.out (by simp)); have n5_ := Aside0.mk (KeepBut.trans (by repeat (first | (with_reducible first | exact HK.out | apply KeepBut.set_ | apply keep_drewN | apply keep_drew | apply keep_alloc | refine keep_far ?_ GW228.out _ | refine keep_far ?_ GW247.out _) | exact HK.out)) hk (.inl rfl)); have n6_ := Aside0.mk (hb); have n7_ := Aside0.mk (hi); clear HO_5; clear HO_6; clear HO_10; clear BK228; clear BK247; clear HK; clear HB; clear HI0; have HO_5 := n0_; have HO_6 := n1_; have HO_10 := n2_; have BK228 := n3_; have BK247 := n4_; have HK := n5_; have HB := n6_; have HI0 := n7_; clear n0_ n1_ n2_ n3_ n4_ n5_ n6_ n7_; (try clear hb); (try clear hb2); (try clear hk); (try clear hi); have p258 : 0 ≤ (t255 : Int) := of_decide_eq_true (by first | (with_reducible assumption) | assumption); have q258 : t255 < (t249.length : Int) := of_decide_eq_true (by first | (with_reducible assumption) | assumption); obtain ⟨ad258, e258, hx258_0⟩ := Kd.at_int (Kd.R_reads' HO_10.out).2.2 t255 p258 q258; cases e258; replace p258 := eq_true p258; replace q258 := eq_true q258) | ((with_reducible refine gate_callee (f := 133) rfl ?_); refine goesL_ (some 67) rfl rfl Try.func133 (by kernel_rfl) rfl #[.slice Ao49 x5_1.length co49, .int .i64 (rd t249 t255)] rfl (by (try simp only [List.map_toArray, List.map_cons, List.map_nil]); first | done | rfl | (simp only [List.length_drop, List.length_take]; rfl)) ?_; (with_reducible refine (spec_HolderOf.calls kj34 _ _ x5_1 (rd t249 t255) t259 _ ?side1 ?side2 A62.out).mono ?_); (case side1 => repeat (first | exact (Kd.R_reads' HO_5.out).2.2 | (with_reducible refine Kd.Ca ?_ _) | (with_reducible refine Kd.Cn ?_ _) | (with_reducible refine Kd.Cd ?_))); (case side2 => exact (Kd.R_reads' HO_5.out).2.1); rintro e w' ⟨rfl, ⟨nd, rfl⟩⟩; refine ⟨_, rfl, ?_⟩) | (go_at_call 135; (with_reducible refine (spec_l03Has.calls kj34 _ _ t235 (rd t249 t255) true _ ?side1 ?side2 A64.out).mono ?_); (case side1 => repeat (first | exact (Kd.R_reads' HO_6.out).2.2 | (with_reducible refine Kd.Ca ?_ _) | (with_reducible refine Kd.Cn ?_ _) | (with_reducible refine Kd.Cd ?_))); (case side2 => exact (Kd.R_reads' HO_6.out).2.1); rintro e w' ⟨rfl, ⟨nd, rfl⟩⟩; have hnb69 := NB247_228.out; have hnc69 := NB228_247.out; have hnb70 := NB247_0.out; have hnc70 := NB0_247.out; have hcz71_0 : w68.cell? ⟨gb247, 0, none⟩ = some (.int .i64 (wrap64 ((wrap64 (x7_1 + 1)) + t240))) := (bc BK247.out 0).trans rfl; have hcz71_1 : w68.cell? ⟨gb247, 1, none⟩ = some (.int .i64 (rd t235 (ji14))) := (bc BK247.out 1).trans rfl; have hcz71_2 : w68.cell? ⟨gb247, 2, none⟩ = some (.int .i64 (-1)) := (bc BK247.out 2).trans rfl; have hcz71_3 : w68.cell? ⟨gb247, 3, none⟩ = some (.bool t244) := (bc BK247.out 3).trans rfl; have hfz71_0 := bz BK247.out 0; have hfz71_1 := bz BK247.out 1; have hfz71_2 := bz BK247.out 2; have hfz71_3 := bz BK247.out 3) | ((with_reducible refine gate_builtin (b := .append) (xs := #[.tmp 77, .tmp 79]) rfl ?_); at_builtin; refine Kd.R_append k84 w.heap.size rfl (.tmp 77) (.tmp 79) 30 84 (.agg #[(.int .i64 0), (.int .i64 0), (.int .i64 0), (.bool false)]) 32 rfl Try.underlying30 info84 rfl (by decide) (by omega) (.slice Ao49 x5_1.length co49) x5_1 (⟨(wrap64 ((wrap64 (x7_1 + 1)) + t240)), (rd t235 (ji14)), (-1), t244⟩ : S84) [.int .i64 (wrap64 ((wrap64 (x7_1 + 1)) + t240)), .int .i64 (rd t235 (ji14)), .int .i64 (-1), .bool t244] (fun k_ => k_ ≠ gb247) (fun _ => False) rfl rfl ?aP (fun _ hk => hk.elim) ?aF ?aO (Below.refl _ _) ?aS ?aL ?_; (case aP => exact k84_mkM _ _ _ (⟨(wrap64 ((wrap64 (x7_1 + 1)) + t240)), (rd t235 (ji14)), (-1), t244⟩ : S84)); (case aF => exact (fun k_ hk => Kd.freshB (g := gb247) (by (with_reducible repeat first | apply bN | apply bd | apply ba); exact BK247.out) k_ hk)); (case aO => exact (by (with_reducible repeat (first | apply Kd.Ra | apply Kd.Rn | apply Kd.Rd)); exact HO_5.out)); (case aS => exact (keep_size (w := w) (g := g) (row := none) (by repeat (first | (with_reducible first | exact HK.out | apply KeepBut.set_ | apply keep_drewN | apply keep_drew | apply keep_alloc | refine keep_far ?_ GW228.out _ | refine keep_far ?_ GW247.out _) | exact HK.out)))); (case aL => have := LMc66.out; omega); intro v262 w72 ho hb hg hat; rw [← Ny261.out] at ho; have n0_ := Aside0.mk (Kd.R_over' (by (with_reducible repeat (first | apply Kd.Ra | apply Kd.Rn | apply Kd.Rd)); exact HO_6.out) (Kd.R_typed (by (with_reducible repeat (first | apply Kd.Ra | apply Kd.Rn | apply Kd.Rd)); exact HO_5.out)) (by decide) hg); have n1_ := Aside0.mk (Kd.R_over' (by (with_reducible repeat (first | apply Kd.Ra | apply Kd.Rn | apply Kd.Rd)); exact HO_10.out) (Kd.R_typed (by (with_reducible repeat (first | apply Kd.Ra | apply Kd.Rn | apply Kd.Rd)); exact HO_5.out)) (by decide) hg); have n2_ := Aside0.mk (blk_grown (g := gb228) (by (with_reducible repeat first | apply bN | apply bd | apply ba); exact BK228.out) hg (Kd.R_ne HO_5.out BK228.out (by decide))); have n3_ := Aside0.mk (blk_grown (g := gb247) (by (with_reducible repeat first | apply bN | apply bd | apply ba); exact BK247.out) hg (Kd.R_away HO_5.out (fun _ hk => hk))); have n4_ := Aside0.mk (IsS169.grown (by repeat (first | (with_reducible first | exact HI0.out | apply IsS169.alloc | apply IsS169.drewN | apply IsS169.drew | apply IsS169.set_1 | apply IsS169.set_2 | refine IsS169.far ?_ NB0_228.out _ | refine IsS169.far ?_ NB0_247.out _) | exact HI0.out)) hg (IsS169.own_ne HI0.out HO_5.out (by decide))); have n5_ := Aside0.mk (below_weaken (by repeat (first | (with_reducible first | exact HB.out | apply wa | apply wN | apply wd | refine ws ?_ (IsS169.ge HI0.out) | refine ws ?_ GE228.out | refine ws ?_ GE247.out) | exact HB.out)) HL.out hb); have n6_ := Aside0.mk (KeepBut.trans (by repeat (first | (with_reducible first | exact HK.out | apply KeepBut.set_ | apply keep_drewN | apply keep_drew | apply keep_alloc | refine keep_far ?_ GW228.out _ | refine keep_far ?_ GW247.out _) | exact HK.out)) (KeepBut.of_grown hg g) (Kd.R_base2 HO_5.out)); have n7_ := Aside0.mk (ho); clear HO_6; clear HO_10; clear BK228; clear BK247; clear HI0; clear HB; clear HK; clear HO_5; have HO_6 := n0_; have HO_10 := n1_; have BK228 := n2_; have BK247 := n3_; have HI0 := n4_; have HB := n5_; have HK := n6_; have HO263 := n7_; clear n0_ n1_ n2_ n3_ n4_ n5_ n6_ n7_; clear ho hb hg hat))
            go_roundg kj34
            case measure => have := HK1.out; have := HJ34.out; omega
            case rel => exact ⟨(y261), ((wrap64 ((wrap64 (x7_1 + 1)) + t240))), (wrap64 (x8_1 + 1)), (t256), (t257), (by first | rfl | (simp; done) | (simp [*]; done)), (by first | rfl | (simp; done) | (simp [*]; done)), H', ⟨by have := HK1.out; have := HJ34.out; omega⟩, ⟨by (with_reducible repeat (first | apply Kd.Ra | apply Kd.Rn | apply Kd.Rd)); exact Kd.R_mono HO263.out (fun _ hk => trivial)⟩, ⟨by (with_reducible repeat (first | apply Kd.Ra | apply Kd.Rn | apply Kd.Rd)); exact Kd.R_mono HO_6.out (fun _ hk => trivial)⟩, ⟨by (with_reducible repeat first | apply bN | apply bd | apply ba); exact BK228.out⟩, ⟨by repeat (first | (with_reducible first | exact HI0.out | apply IsS169.alloc | apply IsS169.drewN | apply IsS169.drew | apply IsS169.set_1 | apply IsS169.set_2 | refine IsS169.far ?_ NB0_228.out _ | refine IsS169.far ?_ NB0_247.out _) | exact HI0.out)⟩, ⟨by repeat (first | (with_reducible first | exact HK.out | apply KeepBut.set_ | apply keep_drewN | apply keep_drew | apply keep_alloc | refine keep_far ?_ GW228.out _ | refine keep_far ?_ GW247.out _) | exact HK.out)⟩, ⟨by repeat (first | (with_reducible first | exact HB.out | apply wa | apply wN | apply wd | refine ws ?_ (IsS169.ge HI0.out) | refine ws ?_ GE228.out | refine ws ?_ GE247.out) | exact HB.out)⟩⟩
          replace c65 := Bool.eq_false_iff.mpr c65
          subst c65
          have H1 : (if x5_1.length < 4398046511104 then (spec_l20Right.l0 kj34 (x5_1 ++ [(⟨(wrap64 ((wrap64 (x7_1 + 1)) + t240)), (rd t235 (ji14)), rd t249 t255, t244⟩ : S84)]) t235 (wrap64 ((wrap64 (x7_1 + 1)) + t240)) (wrap64 (x8_1 + 1)) s0_0 t256 t257 a1_0 a1_1 a1_2) else (none)) = some (r1, r2, r3) := by rw [if_neg (show ¬ (false = true) by decide)] at H; exact H
          clear H
          have H := H1
          clear H1
          by_cases c73 : x5_1.length < 4398046511104
          rotate_left
          · rw [if_neg c73] at H
            exact absurd H (by simp)
          rw [if_pos c73] at H
          have LMc73 := Aside0.mk c73
          clear c73
          obtain ⟨y264, hy264⟩ : ∃ y_ : List (S84), y_ = (x5_1 ++ [(⟨(wrap64 ((wrap64 (x7_1 + 1)) + t240)), (rd t235 (ji14)), rd t249 t255, t244⟩ : S84)]) := ⟨_, rfl⟩
          replace H : (spec_l20Right.l0 kj34 y264 t235 (wrap64 ((wrap64 (x7_1 + 1)) + t240)) (wrap64 (x8_1 + 1)) s0_0 t256 t257 a1_0 a1_1 a1_2) = some (r1, r2, r3) := by first | (rw [hy264]; with_reducible exact H) | (have H2_ := (Option.bind_some _ _).symm.trans H; rw [hy264]; with_reducible exact H2_) | (have H2_ := (Option.bind_some _ _).symm.trans H; with_reducible exact H2_) | with_reducible exact H | (rw [hy264]; exact H) | exact H
          have Ny264 := Aside0.mk hy264
          clear hy264
          have H' := Aside0.mk H
          clear H
          obtain ⟨Ao74, co74, eo74⟩ := Kd.R_slice HO_10.out
          subst eo74
          go_wp2_with (first | ((with_reducible refine gate_callee (f := 130) rfl ?_); refine goesL_ (some 62) rfl rfl Try.func130 (by kernel_rfl) rfl #[.pointer (some ⟨g, 0, none⟩), .int .i64 (t249.length : Int)] rfl (by (try simp only [List.map_toArray, List.map_cons, List.map_nil]); first | done | rfl | (simp only [List.length_drop, List.length_take]; rfl)) ?_; (with_reducible refine (spec_l01Below.calls g s0_0 x1001_34 x1002_34 (t249.length : Int) t255 t256 t257 w0 _ ?side1 ?side2 A59.out).mono ?_); (case side1 => repeat (first | (with_reducible first | exact HI0.out | apply IsS169.alloc | apply IsS169.drewN | apply IsS169.drew | apply IsS169.set_1 | apply IsS169.set_2 | refine IsS169.far ?_ NB0_228.out _ | refine IsS169.far ?_ NB0_247.out _) | exact HI0.out)); (case side2 => repeat (first | (with_reducible first | exact HB.out | apply wa | apply wN | apply wd | refine ws ?_ (IsS169.ge HI0.out) | refine ws ?_ GE228.out | refine ws ?_ GE247.out) | exact HB.out)); rintro e w75 ⟨rfl, hi, hb, hk⟩; refine ⟨_, rfl, ?_⟩; have n0_ := Aside0.mk (Kd.R_mono (Kd.R_keep (IsS169.apart (show IsS169 w0 _ g s0_0 x1001_34 x1002_34 from by repeat (first | (with_reducible first | exact HI0.out | apply IsS169.alloc | apply IsS169.drewN | apply IsS169.drew | apply IsS169.set_1 | apply IsS169.set_2 | refine IsS169.far ?_ NB0_228.out _ | refine IsS169.far ?_ NB0_247.out _) | exact HI0.out)) (by (with_reducible repeat (first | apply Kd.Ra | apply Kd.Rn | apply Kd.Rd)); exact HO_5.out) (by decide)) hk (fun _ h => h.2)) (fun _ h => h.1)); have n1_ := Aside0.mk (Kd.R_mono (Kd.R_keep (IsS169.apart (show IsS169 w0 _ g s0_0 x1001_34 x1002_34 from by repeat (first | (with_reducible first | exact HI0.out | apply IsS169.alloc | apply IsS169.drewN | apply IsS169.drew | apply IsS169.set_1 | apply IsS169.set_2 | refine IsS169.far ?_ NB0_228.out _ | refine IsS169.far ?_ NB0_247.out _) | exact HI0.out)) (by (with_reducible repeat (first | apply Kd.Ra | apply Kd.Rn | apply Kd.Rd)); exact HO_6.out) (by decide)) hk (fun _ h => h.2)) (fun _ h => h.1)); have n2_ := Aside0.mk (Kd.R_mono (Kd.R_keep (IsS169.apart (show IsS169 w0 _ g s0_0 x1001_34 x1002_34 from by repeat (first | (with_reducible first | exact HI0.out | apply IsS169.alloc | apply IsS169.drewN | apply IsS169.drew | apply IsS169.set_1 | apply IsS169.set_2 | refine IsS169.far ?_ NB0_228.out _ | refine IsS169.far ?_ NB0_247.out _) | exact HI0.out)) (by (with_reducible repeat (first | apply Kd.Ra | apply Kd.Rn | apply Kd.Rd)); exact HO_10.out) (by decide)) hk (fun _ h => h.2)) (fun _ h => h.1)); have n3_ := Aside0.mk (KeepBut.blk hk (g' := gb228) (by (with_reducible repeat first | apply bN | apply bd | apply ba); exact BK228.out) NB228_0.out (by simp)); have n4_ := Aside0.mk (KeepBut.blk hk (g' := gb247) (by (with_reducible repeat first | apply bN | apply bd | apply ba); exact BK247.out) NB247_0.out (by simp)); have n5_ := Aside0.mk (KeepBut.trans (by repeat (first | (with_reducible first | exact HK.out | apply KeepBut.set_ | apply keep_drewN | apply keep_drew | apply keep_alloc | refine keep_far ?_ GW228.out _ | refine keep_far ?_ GW247.out _) | exact HK.out)) hk (.inl rfl)); have n6_ := Aside0.mk (hb); have n7_ := Aside0.mk (hi); clear HO_5; clear HO_6; clear HO_10; clear BK228; clear BK247; clear HK; clear HB; clear HI0; have HO_5 := n0_; have HO_6 := n1_; have HO_10 := n2_; have BK228 := n3_; have BK247 := n4_; have HK := n5_; have HB := n6_; have HI0 := n7_; clear n0_ n1_ n2_ n3_ n4_ n5_ n6_ n7_; (try clear hb); (try clear hb2); (try clear hk); (try clear hi); have p258 : 0 ≤ (t255 : Int) := of_decide_eq_true (by first | (with_reducible assumption) | assumption); have q258 : t255 < (t249.length : Int) := of_decide_eq_true (by first | (with_reducible assumption) | assumption); obtain ⟨ad258, e258, hx258_0⟩ := Kd.at_int (Kd.R_reads' HO_10.out).2.2 t255 p258 q258; cases e258; replace p258 := eq_true p258; replace q258 := eq_true q258) | ((with_reducible refine gate_callee (f := 133) rfl ?_); refine goesL_ (some 67) rfl rfl Try.func133 (by kernel_rfl) rfl #[.slice Ao49 x5_1.length co49, .int .i64 (rd t249 t255)] rfl (by (try simp only [List.map_toArray, List.map_cons, List.map_nil]); first | done | rfl | (simp only [List.length_drop, List.length_take]; rfl)) ?_; (with_reducible refine (spec_HolderOf.calls kj34 _ _ x5_1 (rd t249 t255) t259 _ ?side1 ?side2 A62.out).mono ?_); (case side1 => repeat (first | exact (Kd.R_reads' HO_5.out).2.2 | (with_reducible refine Kd.Ca ?_ _) | (with_reducible refine Kd.Cn ?_ _) | (with_reducible refine Kd.Cd ?_))); (case side2 => exact (Kd.R_reads' HO_5.out).2.1); rintro e w' ⟨rfl, ⟨nd, rfl⟩⟩; refine ⟨_, rfl, ?_⟩; (try (rw [drewN_self w75]; generalize hq_ : World.drewN w75 _ = w75; have n0_ : Aside0 (Kd.R (Kd.int .i64) 3 w75 w.heap.size (fun k_ => some k_ ≠ (.slice (some ad243) t235.length co36 : Value).ownBlock) (.slice (some ad258) t249.length co74) t249) := ⟨by rw [← hq_]; exact (by (with_reducible repeat (first | apply Kd.Ra | apply Kd.Rn | apply Kd.Rd)); exact HO_10.out)⟩; have n1_ : Aside0 (Kd.R k84 84 w75 w.heap.size (fun k_ => k_ ≠ gb247) (.slice Ao49 x5_1.length co49) x5_1) := ⟨by rw [← hq_]; exact (by (with_reducible repeat (first | apply Kd.Ra | apply Kd.Rn | apply Kd.Rd)); exact HO_5.out)⟩; have n2_ : Aside0 (Kd.R (Kd.int .i64) 3 w75 w.heap.size (fun k_ => some k_ ≠ (.slice (some ad258) t249.length co74 : Value).ownBlock) (.slice (some ad243) t235.length co36) t235) := ⟨by rw [← hq_]; exact (by (with_reducible repeat (first | apply Kd.Ra | apply Kd.Rn | apply Kd.Rd)); exact HO_6.out)⟩; have n3_ : Aside0 (w75.heap[gb228]? = some (.cells #[.int .i64 a1_0, .int .i64 a1_1, .string a1_2] 27 (0, 0))) := ⟨by rw [← hq_]; exact (by (with_reducible repeat first | apply bN | apply bd | apply ba); exact BK228.out)⟩; have n4_ : Aside0 (w75.heap[gb247]? = some (.cells #[.int .i64 (wrap64 ((wrap64 (x7_1 + 1)) + t240)), .int .i64 (rd t235 (ji14)), .int .i64 (-1), .bool t244] 84 (0, 0))) := ⟨by rw [← hq_]; exact (by (with_reducible repeat first | apply bN | apply bd | apply ba); exact BK247.out)⟩; have n5_ : Aside0 (IsS169 w0 w75 g s0_0 t256 t257) := ⟨by rw [← hq_]; exact (by repeat (first | (with_reducible first | exact HI0.out | apply IsS169.alloc | apply IsS169.drewN | apply IsS169.drew | apply IsS169.set_1 | apply IsS169.set_2 | refine IsS169.far ?_ NB0_228.out _ | refine IsS169.far ?_ NB0_247.out _) | exact HI0.out))⟩; have n6_ : Aside0 (KeepBut w w75 g none) := ⟨by rw [← hq_]; exact (by repeat (first | (with_reducible first | exact HK.out | apply KeepBut.set_ | apply keep_drewN | apply keep_drew | apply keep_alloc | refine keep_far ?_ GW228.out _ | refine keep_far ?_ GW247.out _) | exact HK.out))⟩; have n7_ : Aside0 (Below w0.heap.size w0 w75) := ⟨by rw [← hq_]; exact (by repeat (first | (with_reducible first | exact HB.out | apply wa | apply wN | apply wd | refine ws ?_ (IsS169.ge HI0.out) | refine ws ?_ GE228.out | refine ws ?_ GE247.out) | exact HB.out))⟩; clear HO_10 HO_5 HO_6 BK228 BK247 HI0 HK HB hq_; have HO_10 := n0_; have HO_5 := n1_; have HO_6 := n2_; have BK228 := n3_; have BK247 := n4_; have HI0 := n5_; have HK := n6_; have HB := n7_; clear n0_ n1_ n2_ n3_ n4_ n5_ n6_ n7_)); (try (have hczpgb228_0 : w75.cell? ⟨gb228, 0, none⟩ = some (.int .i64 a1_0) := (bc BK228.out 0).trans rfl; have hfzpgb228_0 := bz BK228.out 0; have hczpgb228_1 : w75.cell? ⟨gb228, 1, none⟩ = some (.int .i64 a1_1) := (bc BK228.out 1).trans rfl; have hfzpgb228_1 := bz BK228.out 1; have hczpgb228_2 : w75.cell? ⟨gb228, 2, none⟩ = some (.string a1_2) := (bc BK228.out 2).trans rfl; have hfzpgb228_2 := bz BK228.out 2; have hczpgb247_0 : w75.cell? ⟨gb247, 0, none⟩ = some (.int .i64 (wrap64 ((wrap64 (x7_1 + 1)) + t240))) := (bc BK247.out 0).trans rfl; have hfzpgb247_0 := bz BK247.out 0; have hczpgb247_1 : w75.cell? ⟨gb247, 1, none⟩ = some (.int .i64 (rd t235 (ji14))) := (bc BK247.out 1).trans rfl; have hfzpgb247_1 := bz BK247.out 1; have hczpgb247_2 : w75.cell? ⟨gb247, 2, none⟩ = some (.int .i64 (-1)) := (bc BK247.out 2).trans rfl; have hfzpgb247_2 := bz BK247.out 2; have hczpgb247_3 : w75.cell? ⟨gb247, 3, none⟩ = some (.bool t244) := (bc BK247.out 3).trans rfl; have hfzpgb247_3 := bz BK247.out 3))) | (go_at_call 135; (with_reducible refine (spec_l03Has.calls kj34 _ _ t235 (rd t249 t255) false _ ?side1 ?side2 A64.out).mono ?_); (case side1 => repeat (first | exact (Kd.R_reads' HO_6.out).2.2 | (with_reducible refine Kd.Ca ?_ _) | (with_reducible refine Kd.Cn ?_ _) | (with_reducible refine Kd.Cd ?_))); (case side2 => exact (Kd.R_reads' HO_6.out).2.1); rintro e w' ⟨rfl, ⟨nd, rfl⟩⟩; (try (rw [drewN_self w75]; generalize hq_ : World.drewN w75 _ = w75; have n0_ : Aside0 (Kd.R (Kd.int .i64) 3 w75 w.heap.size (fun k_ => some k_ ≠ (.slice (some ad243) t235.length co36 : Value).ownBlock) (.slice (some ad258) t249.length co74) t249) := ⟨by rw [← hq_]; exact (by (with_reducible repeat (first | apply Kd.Ra | apply Kd.Rn | apply Kd.Rd)); exact HO_10.out)⟩; have n1_ : Aside0 (Kd.R k84 84 w75 w.heap.size (fun k_ => k_ ≠ gb247) (.slice Ao49 x5_1.length co49) x5_1) := ⟨by rw [← hq_]; exact (by (with_reducible repeat (first | apply Kd.Ra | apply Kd.Rn | apply Kd.Rd)); exact HO_5.out)⟩; have n2_ : Aside0 (Kd.R (Kd.int .i64) 3 w75 w.heap.size (fun k_ => some k_ ≠ (.slice (some ad258) t249.length co74 : Value).ownBlock) (.slice (some ad243) t235.length co36) t235) := ⟨by rw [← hq_]; exact (by (with_reducible repeat (first | apply Kd.Ra | apply Kd.Rn | apply Kd.Rd)); exact HO_6.out)⟩; have n3_ : Aside0 (w75.heap[gb228]? = some (.cells #[.int .i64 a1_0, .int .i64 a1_1, .string a1_2] 27 (0, 0))) := ⟨by rw [← hq_]; exact (by (with_reducible repeat first | apply bN | apply bd | apply ba); exact BK228.out)⟩; have n4_ : Aside0 (w75.heap[gb247]? = some (.cells #[.int .i64 (wrap64 ((wrap64 (x7_1 + 1)) + t240)), .int .i64 (rd t235 (ji14)), .int .i64 (-1), .bool t244] 84 (0, 0))) := ⟨by rw [← hq_]; exact (by (with_reducible repeat first | apply bN | apply bd | apply ba); exact BK247.out)⟩; have n5_ : Aside0 (IsS169 w0 w75 g s0_0 t256 t257) := ⟨by rw [← hq_]; exact (by repeat (first | (with_reducible first | exact HI0.out | apply IsS169.alloc | apply IsS169.drewN | apply IsS169.drew | apply IsS169.set_1 | apply IsS169.set_2 | refine IsS169.far ?_ NB0_228.out _ | refine IsS169.far ?_ NB0_247.out _) | exact HI0.out))⟩; have n6_ : Aside0 (KeepBut w w75 g none) := ⟨by rw [← hq_]; exact (by repeat (first | (with_reducible first | exact HK.out | apply KeepBut.set_ | apply keep_drewN | apply keep_drew | apply keep_alloc | refine keep_far ?_ GW228.out _ | refine keep_far ?_ GW247.out _) | exact HK.out))⟩; have n7_ : Aside0 (Below w0.heap.size w0 w75) := ⟨by rw [← hq_]; exact (by repeat (first | (with_reducible first | exact HB.out | apply wa | apply wN | apply wd | refine ws ?_ (IsS169.ge HI0.out) | refine ws ?_ GE228.out | refine ws ?_ GE247.out) | exact HB.out))⟩; clear HO_10 HO_5 HO_6 BK228 BK247 HI0 HK HB hq_; have HO_10 := n0_; have HO_5 := n1_; have HO_6 := n2_; have BK228 := n3_; have BK247 := n4_; have HI0 := n5_; have HK := n6_; have HB := n7_; clear n0_ n1_ n2_ n3_ n4_ n5_ n6_ n7_)); (try (have hczpgb228_0 : w75.cell? ⟨gb228, 0, none⟩ = some (.int .i64 a1_0) := (bc BK228.out 0).trans rfl; have hfzpgb228_0 := bz BK228.out 0; have hczpgb228_1 : w75.cell? ⟨gb228, 1, none⟩ = some (.int .i64 a1_1) := (bc BK228.out 1).trans rfl; have hfzpgb228_1 := bz BK228.out 1; have hczpgb228_2 : w75.cell? ⟨gb228, 2, none⟩ = some (.string a1_2) := (bc BK228.out 2).trans rfl; have hfzpgb228_2 := bz BK228.out 2; have hczpgb247_0 : w75.cell? ⟨gb247, 0, none⟩ = some (.int .i64 (wrap64 ((wrap64 (x7_1 + 1)) + t240))) := (bc BK247.out 0).trans rfl; have hfzpgb247_0 := bz BK247.out 0; have hczpgb247_1 : w75.cell? ⟨gb247, 1, none⟩ = some (.int .i64 (rd t235 (ji14))) := (bc BK247.out 1).trans rfl; have hfzpgb247_1 := bz BK247.out 1; have hczpgb247_2 : w75.cell? ⟨gb247, 2, none⟩ = some (.int .i64 (-1)) := (bc BK247.out 2).trans rfl; have hfzpgb247_2 := bz BK247.out 2; have hczpgb247_3 : w75.cell? ⟨gb247, 3, none⟩ = some (.bool t244) := (bc BK247.out 3).trans rfl; have hfzpgb247_3 := bz BK247.out 3)); have hnb76 := NB247_228.out; have hnc76 := NB228_247.out; have hnb77 := NB247_0.out; have hnc77 := NB0_247.out; have hcz78_0 : w75.cell? ⟨gb247, 0, none⟩ = some (.int .i64 (wrap64 ((wrap64 (x7_1 + 1)) + t240))) := (bc BK247.out 0).trans rfl; have hcz78_1 : w75.cell? ⟨gb247, 1, none⟩ = some (.int .i64 (rd t235 (ji14))) := (bc BK247.out 1).trans rfl; have hcz78_2 : w75.cell? ⟨gb247, 2, none⟩ = some (.int .i64 (-1)) := (bc BK247.out 2).trans rfl; have hcz78_3 : w75.cell? ⟨gb247, 3, none⟩ = some (.bool t244) := (bc BK247.out 3).trans rfl; have hfz78_0 := bz BK247.out 0; have hfz78_1 := bz BK247.out 1; have hfz78_2 := bz BK247.out 2; have hfz78_3 := bz BK247.out 3) | ((with_reducible refine gate_builtin (b := .append) (xs := #[.tmp 77, .tmp 79]) rfl ?_); at_builtin; refine Kd.R_append k84 w.heap.size rfl (.tmp 77) (.tmp 79) 30 84 (.agg #[(.int .i64 0), (.int .i64 0), (.int .i64 0), (.bool false)]) 32 rfl Try.underlying30 info84 rfl (by decide) (by omega) (.slice Ao49 x5_1.length co49) x5_1 (⟨(wrap64 ((wrap64 (x7_1 + 1)) + t240)), (rd t235 (ji14)), rd t249 t255, t244⟩ : S84) [.int .i64 (wrap64 ((wrap64 (x7_1 + 1)) + t240)), .int .i64 (rd t235 (ji14)), .int .i64 (rd t249 t255), .bool t244] (fun k_ => k_ ≠ gb247) (fun _ => False) rfl (by first | (go_simp; done) | (go_simp; rfl)) ?aP (fun _ hk => hk.elim) ?aF ?aO (Below.refl _ _) ?aS ?aL ?_; (case aP => exact k84_mkM _ _ _ (⟨(wrap64 ((wrap64 (x7_1 + 1)) + t240)), (rd t235 (ji14)), rd t249 t255, t244⟩ : S84)); (case aF => exact (fun k_ hk => Kd.freshB (g := gb247) (o := .cells #[.int .i64 (wrap64 ((wrap64 (x7_1 + 1)) + t240)), .int .i64 (rd t235 (ji14)), .int .i64 (rd t249 t255), .bool t244] 84 (0, 0)) (by (with_reducible repeat first | apply bN | apply bd | apply ba); refine blk_put (cs := #[.int .i64 (wrap64 ((wrap64 (x7_1 + 1)) + t240)), .int .i64 (rd t235 (ji14)), .int .i64 (-1), .bool t244]) ?_ 2 _ rfl; (with_reducible repeat first | apply bN | apply bd | apply ba); exact BK247.out) k_ hk)); (case aO => exact (by (with_reducible repeat (first | apply Kd.Ra | apply Kd.Rn | apply Kd.Rd)); exact Kd.R_mono (Kd.Rf (p := ⟨gb247, 2, none⟩) (Kd.R_mono HO_5.out (fun k_ hk => (⟨hk, hk⟩ : _ ∧ k_ ≠ gb247))) (fun _ hk => hk.2) (.int .i64 (rd t249 t255))) (fun _ hk => hk.1))); (case aS => exact (keep_size (w := w) (g := g) (row := none) (by repeat (first | (with_reducible first | exact HK.out | apply KeepBut.set_ | apply keep_drewN | apply keep_drew | apply keep_alloc | refine keep_far ?_ GW228.out _ | refine keep_far ?_ GW247.out _) | exact HK.out)))); (case aL => have := LMc73.out; omega); intro v265 w79 ho hb hg hat; rw [← Ny264.out] at ho; have n0_ := Aside0.mk (Kd.R_over' (by (with_reducible repeat (first | apply Kd.Ra | apply Kd.Rn | apply Kd.Rd)); exact (Kd.R_mono (Kd.Rf (p := ⟨gb247, 2, none⟩) (Kd.R_types HO_6.out BK247.out (by decide)) (fun _ hk => hk.2) (.int .i64 (rd t249 t255))) (fun _ h_ => h_.1))) (Kd.R_typed (by (with_reducible repeat (first | apply Kd.Ra | apply Kd.Rn | apply Kd.Rd)); exact (Kd.R_mono (Kd.Rf (p := ⟨gb247, 2, none⟩) (Kd.R_mono HO_5.out (fun k_ hk => (⟨hk, hk⟩ : _ ∧ k_ ≠ gb247))) (fun _ hk => hk.2) (.int .i64 (rd t249 t255))) (fun _ h_ => h_.1)))) (by decide) hg); have n1_ := Aside0.mk (Kd.R_over' (by (with_reducible repeat (first | apply Kd.Ra | apply Kd.Rn | apply Kd.Rd)); exact (Kd.R_mono (Kd.Rf (p := ⟨gb247, 2, none⟩) (Kd.R_types HO_10.out BK247.out (by decide)) (fun _ hk => hk.2) (.int .i64 (rd t249 t255))) (fun _ h_ => h_.1))) (Kd.R_typed (by (with_reducible repeat (first | apply Kd.Ra | apply Kd.Rn | apply Kd.Rd)); exact (Kd.R_mono (Kd.Rf (p := ⟨gb247, 2, none⟩) (Kd.R_mono HO_5.out (fun k_ hk => (⟨hk, hk⟩ : _ ∧ k_ ≠ gb247))) (fun _ hk => hk.2) (.int .i64 (rd t249 t255))) (fun _ h_ => h_.1)))) (by decide) hg); have n2_ := Aside0.mk (blk_grown (g := gb228) (o := .cells #[.int .i64 a1_0, .int .i64 a1_1, .string a1_2] 27 (0, 0)) (by (with_reducible repeat first | apply bN | apply bd | apply ba); refine blk_far ?_ NB228_247.out _; (with_reducible repeat first | apply bN | apply bd | apply ba); exact BK228.out) hg (Kd.R_ne HO_5.out BK228.out (by decide))); have n3_ := Aside0.mk (blk_grown (g := gb247) (o := .cells #[.int .i64 (wrap64 ((wrap64 (x7_1 + 1)) + t240)), .int .i64 (rd t235 (ji14)), .int .i64 (rd t249 t255), .bool t244] 84 (0, 0)) (by (with_reducible repeat first | apply bN | apply bd | apply ba); refine blk_put (cs := #[.int .i64 (wrap64 ((wrap64 (x7_1 + 1)) + t240)), .int .i64 (rd t235 (ji14)), .int .i64 (-1), .bool t244]) ?_ 2 _ rfl; (with_reducible repeat first | apply bN | apply bd | apply ba); exact BK247.out) hg (Kd.R_away HO_5.out (fun _ hk => hk))); have n4_ := Aside0.mk (IsS169.grown (show IsS169 w0 _ g s0_0 t256 t257 from by repeat (first | (with_reducible first | exact HI0.out | apply IsS169.alloc | apply IsS169.drewN | apply IsS169.drew | apply IsS169.set_1 | apply IsS169.set_2 | refine IsS169.far ?_ NB0_228.out _ | refine IsS169.far ?_ NB0_247.out _) | exact HI0.out)) hg (IsS169.own_ne HI0.out HO_5.out (by decide))); have n5_ := Aside0.mk (below_weaken (by repeat (first | (with_reducible first | exact HB.out | apply wa | apply wN | apply wd | refine ws ?_ (IsS169.ge HI0.out) | refine ws ?_ GE228.out | refine ws ?_ GE247.out) | exact HB.out)) HL.out hb); have n6_ := Aside0.mk (KeepBut.trans (by repeat (first | (with_reducible first | exact HK.out | apply KeepBut.set_ | apply keep_drewN | apply keep_drew | apply keep_alloc | refine keep_far ?_ GW228.out _ | refine keep_far ?_ GW247.out _) | exact HK.out)) (KeepBut.of_grown hg g) (Kd.R_base2 HO_5.out)); have n7_ := Aside0.mk (ho); clear HO_6; clear HO_10; clear BK228; clear BK247; clear HI0; clear HB; clear HK; clear HO_5; have HO_6 := n0_; have HO_10 := n1_; have BK228 := n2_; have BK247 := n3_; have HI0 := n4_; have HB := n5_; have HK := n6_; have HO266 := n7_; clear n0_ n1_ n2_ n3_ n4_ n5_ n6_ n7_; clear ho hb hg hat))
          go_roundg kj34
          case measure => have := HK1.out; have := HJ34.out; omega
          case rel => exact ⟨(y264), ((wrap64 ((wrap64 (x7_1 + 1)) + t240))), (wrap64 (x8_1 + 1)), (t256), (t257), (by first | rfl | (simp; done) | (simp [*]; done)), (by first | rfl | (simp; done) | (simp [*]; done)), H', ⟨by have := HK1.out; have := HJ34.out; omega⟩, ⟨by (with_reducible repeat (first | apply Kd.Ra | apply Kd.Rn | apply Kd.Rd)); exact Kd.R_mono HO266.out (fun _ hk => trivial)⟩, ⟨by (with_reducible repeat (first | apply Kd.Ra | apply Kd.Rn | apply Kd.Rd)); exact Kd.R_mono HO_6.out (fun _ hk => trivial)⟩, ⟨by (with_reducible repeat first | apply bN | apply bd | apply ba); exact BK228.out⟩, ⟨by repeat (first | (with_reducible first | exact HI0.out | apply IsS169.alloc | apply IsS169.drewN | apply IsS169.drew | apply IsS169.set_1 | apply IsS169.set_2 | refine IsS169.far ?_ NB0_228.out _ | refine IsS169.far ?_ NB0_247.out _) | exact HI0.out)⟩, ⟨by repeat (first | (with_reducible first | exact HK.out | apply KeepBut.set_ | apply keep_drewN | apply keep_drew | apply keep_alloc | refine keep_far ?_ GW228.out _ | refine keep_far ?_ GW247.out _) | exact HK.out)⟩, ⟨by repeat (first | (with_reducible first | exact HB.out | apply wa | apply wN | apply wd | refine ws ?_ (IsS169.ge HI0.out) | refine ws ?_ GE228.out | refine ws ?_ GE247.out) | exact HB.out)⟩⟩

end Go.Proofs.Ytfinjkjnoobbjaa.MFnTeams
