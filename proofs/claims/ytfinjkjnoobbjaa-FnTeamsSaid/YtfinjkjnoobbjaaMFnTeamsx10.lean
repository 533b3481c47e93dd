/- Made by a program of this session (out of the kit's print, with hand-made contracts): what each Go function that the law reaches computes, and that the machine's call does so. -/
import Derived.Test.YtfinjkjnoobbjaaMFnTeamsx0
import Derived.Test.YtfinjkjnoobbjaaMFnTeamsx1
import Derived.Test.YtfinjkjnoobbjaaMFnTeamsx2
import Derived.Test.YtfinjkjnoobbjaaMFnTeamsx9
namespace Go.Proofs.Ytfinjkjnoobbjaa.MFnTeams
open Go.RowKit Go.Proofs.YtfinjkjnoobbjaaW.PrintWords Go.Proofs.YtfinjkjnoobbjaaW.PrintLast Go.Proofs.YtfinjkjnoobbjaaW.PrintMore
attribute [local go_sem] max2_int min2_int max_two min_two max_three min_three max_four min_four   -- for this text's walks alone
set_option linter.unusedVariables false
set_option linter.unusedSimpArgs false

/-! ### spec_DrawTeam: function 36 -/
def spec_DrawTeam.f (k : Nat) (l0 : List Int) : Option (Int × Int × ByteArray × (List (S84))) := (spec_l01New.f k l0).bind fun bt274 => ((spec_l02Right.f k bt274.1 bt274.2.1 bt274.2.2).bind fun bt278 => ((spec_l20Right.f k bt274.1 bt278.2.2.2.1 bt278.2.2.2.2 bt278.1 bt278.2.1 bt278.2.2.1).bind fun bt284 => (some (bt278.1, bt278.2.1, bt278.2.2.1, bt284.1))))
theorem spec_DrawTeam.mono : ∀ a0 k, LeO (spec_DrawTeam.f k a0) (spec_DrawTeam.f (k + 1) a0) := by
  intro a0 k
  unfold spec_DrawTeam.f
  repeat' first
      | (with_reducible exact spec_l01New.mono _ _)
      | (with_reducible exact spec_l02Right.mono _ _ _ _)
      | (with_reducible exact spec_l20Right.mono _ _ _ _ _ _ _)
      | (with_reducible exact LeO.refl _)
      | (with_reducible exact LeO.none _)
      | (with_reducible refine LeO.ite ?_ ?_)
      | (with_reducible refine LeO.bind ?_ (fun _ => ?_))
      | exact spec_l01New.mono _ _
      | exact spec_l02Right.mono _ _ _ _
      | exact spec_l20Right.mono _ _ _ _ _ _ _
      | exact LeO.none _
      | refine LeO.ite ?_ ?_
      | refine LeO.bind ?_ (fun _ => ?_)
set_option maxHeartbeats 8000000 in
set_option maxRecDepth 100000 in
theorem spec_DrawTeam.calls (k : Nat) (A0 : Option Addr) (c0 : Nat) (l0 : List Int) (r1 : Int) (r2 : Int) (r3 : ByteArray) (r4 : List (S84)) (w : World) (hr0 : Kd.C (Kd.int .u8) w A0 l0.length l0) (hc0 : l0.length ≤ c0) (h : spec_DrawTeam.f k l0 = some (r1, r2, r3, r4)) :
    Calls Try.prog 36 #[.slice A0 l0.length c0] w fun e w' => ∃ v3_ : Value, e = .returned (.tuple #[.agg #[.int .i64 r1, .int .i64 r2, .string r3], v3_]) ∧ Kd.R k84 84 w' w.heap.size (fun _ => True) v3_ r4 ∧ Below w.heap.size w w' := by
  have hu27 := Try.underlying27
  have HR0 := Aside0.mk hr0
  have HC0 := Aside0.mk hc0
  clear hr0 hc0
  have HB := Aside0.mk (Below.refl w.heap.size w)
  have H : ((spec_l01New.f k l0).bind fun bt274 => ((spec_l02Right.f k bt274.1 bt274.2.1 bt274.2.2).bind fun bt278 => ((spec_l20Right.f k bt274.1 bt278.2.2.2.1 bt278.2.2.2.2 bt278.1 bt278.2.1 bt278.2.2.1).bind fun bt284 => (some (bt278.1, bt278.2.1, bt278.2.2.1, bt284.1))))) = some (r1, r2, r3, r4) := h
  clear h
  replace H := Option.bind_eq_some_iff.mp H
  obtain ⟨⟨t274, t275, t276⟩, A20, H⟩ := H
  replace H : ((spec_l02Right.f k t274 t275 t276).bind fun bt278 => ((spec_l20Right.f k t274 bt278.2.2.2.1 bt278.2.2.2.2 bt278.1 bt278.2.1 bt278.2.2.1).bind fun bt284 => (some (bt278.1, bt278.2.1, bt278.2.2.1, bt284.1)))) = some (r1, r2, r3, r4) := H
  have A2 := Aside0.mk A20
  clear A20
  replace H := Option.bind_eq_some_iff.mp H
  obtain ⟨⟨t278, t279, t280, t281, t282⟩, A30, H⟩ := H
  replace H : ((spec_l20Right.f k t274 t281 t282 t278 t279 t280).bind fun bt284 => (some (t278, t279, t280, bt284.1))) = some (r1, r2, r3, r4) := H
  have A3 := Aside0.mk A30
  clear A30
  replace H := Option.bind_eq_some_iff.mp H
  obtain ⟨⟨t284, t287, t288⟩, A40, H⟩ := H
  replace H : (some (t278, t279, t280, t284)) = some (r1, r2, r3, r4) := H
  have A4 := Aside0.mk A40
  clear A40
  simp only [Option.some.injEq, Prod.mk.injEq] at H
  obtain ⟨rfl, rfl, rfl, rfl⟩ := H
  go_enter Try.func36, Try.ntmps36
  try go_wp2_with (first | ((with_reducible refine gate_dst (N := 2) rfl ?_); refine box_event ?hg (N := 2) ?hd (cs := #[.int .i64 0, .int .i64 0, .string (⟨#[]⟩ : ByteArray)]) (t := 27) ?hr ?_; (case hd => rfl); (case hg => rfl); (case hr => first | (go_simp; done) | (go_simp; rfl)); intro gb273 hg w5 hbox hb; have n0_ := Aside0.mk (below_step (by repeat (first | (with_reducible first | exact HB.out | apply wa | apply wN | apply wd) | exact HB.out)) hb); have n1_ := Aside0.mk (hbox); have n2_ := Aside0.mk ((by rw [hg]; exact (below_size (by repeat (first | (with_reducible first | exact HB.out | apply wa | apply wN | apply wd) | exact HB.out))) : w.heap.size ≤ gb273)); have n3_ := n2_; clear HB; have HB := n0_; have BK273 := n1_; have GW273 := n2_; have GE273 := n3_; clear n0_ n1_ n2_ n3_; clear hb hbox hg) | ((with_reducible refine gate_callee (f := 91) rfl ?_); refine goesL_ (some 7) rfl rfl Try.func91 (by kernel_rfl) rfl #[.slice A0 l0.length c0] rfl (by (try simp only [List.map_toArray, List.map_cons, List.map_nil]); first | done | rfl | (simp only [List.length_drop, List.length_take]; rfl)) ?_; (with_reducible refine (spec_l01New.calls k _ _ l0 t274 t275 t276 w _ ?side1 ?side2 ?side3 A2.out).mono ?_); (case side1 => repeat (first | (with_reducible first | exact HB.out | apply wa | apply wN | apply wd | refine ws ?_ GE273.out) | exact HB.out)); (case side2 => exact HR0.out); (case side3 => exact HC0.out); rintro e w6 ⟨g277, rfl, hi, hb, hb2⟩; refine ⟨_, rfl, ?_⟩; have n0_ := Aside0.mk (bb (g := gb273) (by first | (with_reducible exact BK273.out) | (with_reducible exact bN BK273.out _) | (with_reducible exact bd BK273.out) | ((with_reducible repeat first | apply bN | apply bd | apply ba); exact BK273.out)) hb2); have n1_ := Aside0.mk (hb); have n2_ := Aside0.mk (hi); have n3_ := Aside0.mk (IsS169.ne_blk hi (bb (g := gb273) (by first | (with_reducible exact BK273.out) | (with_reducible exact bN BK273.out _) | (with_reducible exact bd BK273.out) | ((with_reducible repeat first | apply bN | apply bd | apply ba); exact BK273.out)) hb2) (by decide)); have n4_ := Aside0.mk (Ne.symm (IsS169.ne_blk hi (bb (g := gb273) (by first | (with_reducible exact BK273.out) | (with_reducible exact bN BK273.out _) | (with_reducible exact bd BK273.out) | ((with_reducible repeat first | apply bN | apply bd | apply ba); exact BK273.out)) hb2) (by decide))); clear BK273; clear HB; have BK273 := n0_; have HB := n1_; have HI277 := n2_; have NB277_273 := n3_; have NB273_277 := n4_; clear n0_ n1_ n2_ n3_ n4_; (try clear hb); (try clear hb2); (try clear hk); (try clear hi)) | ((with_reducible refine gate_callee (f := 92) rfl ?_); refine goesL_ (some 9) rfl rfl Try.func92 (by kernel_rfl) rfl #[.pointer (some ⟨g277, 0, none⟩)] rfl (by (try simp only [List.map_toArray, List.map_cons, List.map_nil]); first | done | rfl | (simp only [List.length_drop, List.length_take]; rfl)) ?_; (with_reducible refine (spec_l02Right.calls k g277 t274 t275 t276 t278 t279 t280 t281 t282 w _ ?side1 ?side2 A3.out).mono ?_); (case side1 => repeat (first | (with_reducible first | exact HI277.out | apply IsS169.alloc | apply IsS169.drewN | apply IsS169.drew | apply IsS169.set_1 | apply IsS169.set_2 | refine IsS169.far ?_ NB277_273.out _) | exact HI277.out)); (case side2 => repeat (first | (with_reducible first | exact HB.out | apply wa | apply wN | apply wd | refine ws ?_ (IsS169.ge HI277.out) | refine ws ?_ GE273.out) | exact HB.out)); rintro e w7 ⟨rfl, hi, hb, hk⟩; refine ⟨_, rfl, ?_⟩; have n0_ := Aside0.mk (KeepBut.blk hk (g' := gb273) (by (with_reducible repeat first | apply bN | apply bd | apply ba); exact BK273.out) NB273_277.out (by simp)); have n1_ := Aside0.mk (hb); have n2_ := Aside0.mk (hi); clear BK273; clear HB; clear HI277; have BK273 := n0_; have HB := n1_; have HI277 := n2_; clear n0_ n1_ n2_; (try clear hb); (try clear hb2); (try clear hk); (try clear hi)) | ((with_reducible refine gate_dst (N := 5) rfl ?_); refine box_event ?hg (N := 5) ?hd (cs := #[.int .i64 0, .int .i64 0, .string (⟨#[]⟩ : ByteArray)]) (t := 27) ?hr ?_; (case hd => rfl); (case hg => rfl); (case hr => first | (go_simp; done) | (go_simp; rfl)); intro gb283 hg w8 hbox hb; have n0_ := Aside0.mk (bb (g := gb273) (by first | (with_reducible exact BK273.out) | (with_reducible exact bN BK273.out _) | (with_reducible exact bd BK273.out) | ((with_reducible repeat first | apply bN | apply bd | apply ba); exact BK273.out)) hb); have n1_ := Aside0.mk (IsS169.below (by repeat (first | (with_reducible first | exact HI277.out | apply IsS169.alloc | apply IsS169.drewN | apply IsS169.drew | apply IsS169.set_1 | apply IsS169.set_2 | refine IsS169.far ?_ NB277_273.out _) | exact HI277.out)) hb); have n2_ := Aside0.mk (below_step (by repeat (first | (with_reducible first | exact HB.out | apply wa | apply wN | apply wd | refine ws ?_ (IsS169.ge HI277.out) | refine ws ?_ GE273.out) | exact HB.out)) hb); have n3_ := Aside0.mk (hbox); have n4_ := Aside0.mk ((by rw [hg]; exact (below_size (by repeat (first | (with_reducible first | exact HB.out | apply wa | apply wN | apply wd | refine ws ?_ (IsS169.ge HI277.out) | refine ws ?_ GE273.out) | exact HB.out))) : w.heap.size ≤ gb283)); have n5_ := n4_; have n6_ := Aside0.mk ((by rw [hg]; exact Nat.ne_of_lt (blk_lt (g := gb273) (by (with_reducible repeat first | apply bN | apply bd | apply ba); exact BK273.out)) : gb273 ≠ gb283)); have n7_ := Aside0.mk ((by rw [hg]; exact Nat.ne_of_gt (blk_lt (g := gb273) (by (with_reducible repeat first | apply bN | apply bd | apply ba); exact BK273.out)) : gb283 ≠ gb273)); have n8_ := Aside0.mk ((by rw [hg]; exact Nat.ne_of_lt (IsS169.lt (show IsS169 w _ g277 t274 t281 t282 from by repeat (first | (with_reducible first | exact HI277.out | apply IsS169.alloc | apply IsS169.drewN | apply IsS169.drew | apply IsS169.set_1 | apply IsS169.set_2 | refine IsS169.far ?_ NB277_273.out _) | exact HI277.out))) : g277 ≠ gb283)); have n9_ := Aside0.mk ((by rw [hg]; exact Nat.ne_of_gt (IsS169.lt (show IsS169 w _ g277 t274 t281 t282 from by repeat (first | (with_reducible first | exact HI277.out | apply IsS169.alloc | apply IsS169.drewN | apply IsS169.drew | apply IsS169.set_1 | apply IsS169.set_2 | refine IsS169.far ?_ NB277_273.out _) | exact HI277.out))) : gb283 ≠ g277)); clear BK273; clear HI277; clear HB; have BK273 := n0_; have HI277 := n1_; have HB := n2_; have BK283 := n3_; have GW283 := n4_; have GE283 := n5_; have NB273_283 := n6_; have NB283_273 := n7_; have NB277_283 := n8_; have NB283_277 := n9_; clear n0_ n1_ n2_ n3_ n4_ n5_ n6_ n7_ n8_ n9_; clear hb hbox hg; have hnb9 := NB283_273.out; have hnc9 := NB273_283.out; have hnb10 := NB283_277.out; have hnc10 := NB277_283.out; have hcz11_0 : w8.cell? ⟨gb283, 0, none⟩ = some (.int .i64 0) := (bc BK283.out 0).trans rfl; have hcz11_1 : w8.cell? ⟨gb283, 1, none⟩ = some (.int .i64 0) := (bc BK283.out 1).trans rfl; have hcz11_2 : w8.cell? ⟨gb283, 2, none⟩ = some (.string (⟨#[]⟩ : ByteArray)) := (bc BK283.out 2).trans rfl; have hfz11_0 := bz BK283.out 0; have hfz11_1 := bz BK283.out 1; have hfz11_2 := bz BK283.out 2))
  have n0_ : Aside0 ((((w8.setCell ⟨gb283, 0, none⟩ (.int .i64 t278)).setCell ⟨gb283, 1, none⟩ (.int .i64 t279)).setCell ⟨gb283, 2, none⟩ (.string t280)).heap[gb273]? = some (.cells #[.int .i64 0, .int .i64 0, .string (⟨#[]⟩ : ByteArray)] 27 (0, 0))) := ⟨by (with_reducible repeat first | apply bN | apply bd | apply ba); refine blk_far ?_ NB273_283.out _; (with_reducible repeat first | apply bN | apply bd | apply ba); refine blk_far ?_ NB273_283.out _; (with_reducible repeat first | apply bN | apply bd | apply ba); refine blk_far ?_ NB273_283.out _; (with_reducible repeat first | apply bN | apply bd | apply ba); exact BK273.out⟩
  have n1_ : Aside0 ((((w8.setCell ⟨gb283, 0, none⟩ (.int .i64 t278)).setCell ⟨gb283, 1, none⟩ (.int .i64 t279)).setCell ⟨gb283, 2, none⟩ (.string t280)).heap[gb283]? = some (.cells #[.int .i64 t278, .int .i64 t279, .string t280] 27 (0, 0))) := ⟨by (with_reducible repeat first | apply bN | apply bd | apply ba); refine blk_put (cs := #[.int .i64 t278, .int .i64 t279, .string (⟨#[]⟩ : ByteArray)]) ?_ 2 _ rfl; (with_reducible repeat first | apply bN | apply bd | apply ba); refine blk_put (cs := #[.int .i64 t278, .int .i64 0, .string (⟨#[]⟩ : ByteArray)]) ?_ 1 _ rfl; (with_reducible repeat first | apply bN | apply bd | apply ba); refine blk_put (cs := #[.int .i64 0, .int .i64 0, .string (⟨#[]⟩ : ByteArray)]) ?_ 0 _ rfl; (with_reducible repeat first | apply bN | apply bd | apply ba); exact BK283.out⟩
  have n2_ : Aside0 (IsS169 w (((w8.setCell ⟨gb283, 0, none⟩ (.int .i64 t278)).setCell ⟨gb283, 1, none⟩ (.int .i64 t279)).setCell ⟨gb283, 2, none⟩ (.string t280)) g277 t274 t281 t282) := ⟨by repeat (first | (with_reducible first | exact HI277.out | apply IsS169.alloc | apply IsS169.drewN | apply IsS169.drew | apply IsS169.set_1 | apply IsS169.set_2 | refine IsS169.far ?_ NB277_273.out _ | refine IsS169.far ?_ NB277_283.out _) | exact HI277.out)⟩
  have n3_ : Aside0 (Below w.heap.size w (((w8.setCell ⟨gb283, 0, none⟩ (.int .i64 t278)).setCell ⟨gb283, 1, none⟩ (.int .i64 t279)).setCell ⟨gb283, 2, none⟩ (.string t280))) := ⟨by repeat (first | (with_reducible first | exact HB.out | apply wa | apply wN | apply wd | refine ws ?_ (IsS169.ge HI277.out) | refine ws ?_ GE273.out | refine ws ?_ GE283.out) | exact HB.out)⟩
  (try clear BK273)
  (try clear BK283)
  (try clear HI277)
  (try clear HB)
  generalize (((w8.setCell ⟨gb283, 0, none⟩ (.int .i64 t278)).setCell ⟨gb283, 1, none⟩ (.int .i64 t279)).setCell ⟨gb283, 2, none⟩ (.string t280)) = w12 at n0_ n1_ n2_ n3_ ⊢
  have BK273 := n0_
  have BK283 := n1_
  have HI277 := n2_
  have HB := n3_
  clear n0_ n1_ n2_ n3_
  have n0_ := Aside0.mk (bd BK273.out)
  have n1_ := Aside0.mk (bd BK283.out)
  have n2_ := Aside0.mk (IsS169.drew HI277.out)
  have n3_ := Aside0.mk (wd HB.out)
  clear BK273
  clear BK283
  clear HI277
  clear HB
  have BK273 := n0_
  have BK283 := n1_
  have HI277 := n2_
  have HB := n3_
  clear n0_ n1_ n2_ n3_
  refine start_ (n := 6) (S := fun w' => w'.cell? ⟨gb283, 0, none⟩ = some (.int .i64 t278) ∧ w'.cell? ⟨gb283, 1, none⟩ = some (.int .i64 t279) ∧ w'.cell? ⟨gb283, 2, none⟩ = some (.string t280)) (ds := []) #[false, false, false, false, false, false] (by kernel_rfl) rfl rfl ⟨(bc BK283.out 0).trans rfl, (bc BK283.out 1).trans rfl, (bc BK283.out 2).trans rfl⟩ (fun hHeld => ?_)
  generalize w12.drew = w13 at BK273 BK283 HI277 HB hHeld ⊢
  refine pure_ (i := 1) (N := some 11) (v := ?_) (a' := ?_) #[false, true, false, false, false, false] rfl rfl (by kernel_rfl) (fun _ _ _ h => h) (Or.inl ⟨by rfl, ?_⟩) ?_ ?_
  rotate_left
  · intro w'
    go_simp
    with_reducible rfl
  rotate_left
  · simp only [Act.put, List.setIfInBounds_toArray, List.set_cons_zero, List.set_cons_succ, i64_w, i32_w]
    rfl
  refine take_ (i := 0) (N := some 10) (v := ?_) (a' := ?_) #[true, true, false, false, false, false] rfl rfl (by kernel_rfl) (fun _ _ _ h => h) (Or.inl ⟨by rfl, ?_⟩) hHeld ?_ ?_
  rotate_left
  · rintro w' ⟨s0, s1, s2⟩
    go_simp
    with_reducible rfl
  rotate_left
  · simp only [Act.put, List.setIfInBounds_toArray, List.set_cons_zero, List.set_cons_succ, i64_w, i32_w]
    rfl
  refine take_ (i := 2) (N := some 12) (v := ?_) (a' := ?_) #[true, true, true, false, false, false] rfl rfl (by kernel_rfl) (fun _ _ _ h => h) (Or.inl ⟨by rfl, ?_⟩) hHeld ?_ ?_
  rotate_left
  · rintro w' ⟨s0, s1, s2⟩
    go_simp
    with_reducible rfl
  rotate_left
  · simp only [Act.put, List.setIfInBounds_toArray, List.set_cons_zero, List.set_cons_succ, i64_w, i32_w]
    rfl
  refine one_ (i := 3) (N := some 13) #[true, true, true, true, false, false] rfl rfl (by kernel_rfl) (by decide) (fun K hK => ?_)
  refine goes_ Try.func93 (by kernel_rfl) rfl #[.pointer (some ⟨g277, 0, none⟩), .agg #[.int .i64 t278, .int .i64 t279, .string t280]] (by rfl) rfl rfl (by (try simp only [List.map_toArray, List.map_cons, List.map_nil]); first | done | rfl | (simp only [List.length_drop, List.length_take]; rfl)) ?_
  with_reducible refine (spec_l20Right.calls k g277 t274 t281 t282 t278 t279 t280 t284 t287 t288 w _ ?side1 ?side2 A4.out).mono ?_
  (case side1 => repeat (first | (with_reducible first | exact HI277.out | apply IsS169.alloc | apply IsS169.drewN | apply IsS169.drew | apply IsS169.set_1 | apply IsS169.set_2 | refine IsS169.far ?_ NB277_273.out _ | refine IsS169.far ?_ NB277_283.out _) | exact HI277.out))
  (case side2 => repeat (first | (with_reducible first | exact HB.out | apply wa | apply wN | apply wd | refine ws ?_ (IsS169.ge HI277.out) | refine ws ?_ GE273.out | refine ws ?_ GE283.out) | exact HB.out))
  rintro e w14 ⟨v285, rfl, ho0, hi, hb, hk⟩
  refine ⟨_, rfl, ?_⟩
  have n0_ := Aside0.mk (KeepBut.blk hk (g' := gb273) (by (with_reducible repeat first | apply bN | apply bd | apply ba); exact BK273.out) NB273_277.out (by simp))
  have n1_ := Aside0.mk (KeepBut.blk hk (g' := gb283) (by (with_reducible repeat first | apply bN | apply bd | apply ba); exact BK283.out) NB283_277.out (by simp))
  have n2_ := Aside0.mk (Kd.R_lower ho0 (below_size (by repeat (first | (with_reducible first | exact HB.out | apply wa | apply wN | apply wd | refine ws ?_ (IsS169.ge HI277.out) | refine ws ?_ GE273.out | refine ws ?_ GE283.out) | exact HB.out))))
  have n3_ := Aside0.mk (hb)
  have n4_ := Aside0.mk (hi)
  clear BK273
  clear BK283
  clear HB
  clear HI277
  have BK273 := n0_
  have BK283 := n1_
  have HO286 := n2_
  have HB := n3_
  have HI277 := n4_
  clear n0_ n1_ n2_ n3_ n4_
  (try clear hb)
  (try clear hb2)
  (try clear hk)
  (try clear hi)
  (try clear ho0)
  refine hK.out _ _ ⟨(bc BK283.out 0).trans rfl, (bc BK283.out 1).trans rfl, (bc BK283.out 2).trans rfl⟩ (fun hHeld => ?_)
  clear hK K
  refine norm_ (a' := ?_) ?_ ?_
  rotate_left
  · show Act.put _ (some 13) _ = _
    simp only [Act.put, List.setIfInBounds_toArray, List.set_cons_zero, List.set_cons_succ, i64_w, i32_w]
    rfl
  refine one_ (i := 4) (N := none) #[true, true, true, true, true, false] rfl rfl (by kernel_rfl) (by decide) (fun K hK => ?_)
  have hs15 : w14.cell? ⟨gb273, 0, none⟩ = some (.int .i64 0) := (bc BK273.out 0).trans rfl
  have hfs15 := bz BK273.out 0
  have hns15_1 := NB283_273.out
  have hms15_1 := NB273_283.out
  have hs16 : w14.cell? ⟨gb273, 1, none⟩ = some (.int .i64 0) := (bc BK273.out 1).trans rfl
  have hfs16 := bz BK273.out 1
  have hns16_1 := NB283_273.out
  have hms16_1 := NB273_283.out
  have hs17 : w14.cell? ⟨gb273, 2, none⟩ = some (.string (⟨#[]⟩ : ByteArray)) := (bc BK273.out 2).trans rfl
  have hfs17 := bz BK273.out 2
  have hns17_1 := NB283_273.out
  have hms17_1 := NB273_283.out
  refine skip_ (w1 := ?_) (by rfl) rfl ?_ ?_
  rotate_left
  · go_simp
    rfl
  refine hK.out _ _ ⟨((cell_far (p := ⟨gb273, _, none⟩) NB283_273.out _).trans (((cell_far (p := ⟨gb273, _, none⟩) NB283_273.out _).trans (((cell_far (p := ⟨gb273, _, none⟩) NB283_273.out _).trans (hHeld.1)))))), ((cell_far (p := ⟨gb273, _, none⟩) NB283_273.out _).trans (((cell_far (p := ⟨gb273, _, none⟩) NB283_273.out _).trans (((cell_far (p := ⟨gb273, _, none⟩) NB283_273.out _).trans (hHeld.2.1)))))), ((cell_far (p := ⟨gb273, _, none⟩) NB283_273.out _).trans (((cell_far (p := ⟨gb273, _, none⟩) NB283_273.out _).trans (((cell_far (p := ⟨gb273, _, none⟩) NB283_273.out _).trans (hHeld.2.2))))))⟩ (fun hHeld => ?_)
  clear hK K
  refine pure_ (i := 5) (N := some 3) (v := ?_) (a' := ?_) #[true, true, true, true, true, true] rfl rfl (by kernel_rfl) (fun _ _ _ h => h) (Or.inl ⟨by rfl, ?_⟩) ?_ ?_
  rotate_left
  · intro w'
    go_simp
    with_reducible rfl
  rotate_left
  · simp only [Act.put, List.setIfInBounds_toArray, List.set_cons_zero, List.set_cons_succ, i64_w, i32_w]
    rfl
  refine done_ (by kernel_rfl) ?_
  try go_wp2
  refine bodyPost_ret (results_ct rfl _ _ gb273 27 #[.int .i64 t278, .int .i64 t279, .string t280] (0, 0) _ rfl (by (with_reducible repeat first | apply bN | apply bd | apply ba); refine blk_put (cs := #[.int .i64 t278, .int .i64 t279, .string (⟨#[]⟩ : ByteArray)]) ?_ 2 _ rfl; (with_reducible repeat first | apply bN | apply bd | apply ba); refine blk_put (cs := #[.int .i64 t278, .int .i64 0, .string (⟨#[]⟩ : ByteArray)]) ?_ 1 _ rfl; (with_reducible repeat first | apply bN | apply bd | apply ba); refine blk_put (cs := #[.int .i64 0, .int .i64 0, .string (⟨#[]⟩ : ByteArray)]) ?_ 0 _ rfl; (with_reducible repeat first | apply bN | apply bd | apply ba); exact BK273.out) Try.underlying27 rfl (by kernel_rfl)) rfl ?_
  exact ⟨_, by first | rfl | (simp [errW_none, errW_some] <;> rfl) | (simp [*, errW_none, errW_some] <;> rfl), by (with_reducible repeat (first | apply Kd.Ra | apply Kd.Rn | apply Kd.Rd)); exact Kd.R_mono (Kd.Rf (p := ⟨gb273, 2, none⟩) (Kd.Rf (p := ⟨gb273, 1, none⟩) (Kd.Rf (p := ⟨gb273, 0, none⟩) (Kd.R_types HO286.out BK273.out (by decide)) (fun _ hk => hk.2) (.int .i64 t278)) (fun _ hk => hk.2) (.int .i64 t279)) (fun _ hk => hk.2) (.string t280)) (fun _ hk => trivial), by repeat (first | (with_reducible first | exact HB.out | apply wa | apply wN | apply wd | refine ws ?_ (IsS169.ge HI277.out) | refine ws ?_ GE273.out | refine ws ?_ GE283.out) | exact HB.out)⟩

/-! ### impl_heldBy: function 96 -/
def impl_heldBy.f (a0_0 : Int) (a0_1 : Int) (a0_2 : Int) (a0_3 : Bool) : Option (List Int) := if a0_2 < 0 then (some (([a0_1] : List Int))) else (some (([a0_1, a0_2] : List Int)))
set_option maxHeartbeats 8000000 in
set_option maxRecDepth 100000 in
theorem impl_heldBy.calls (a0_0 : Int) (a0_1 : Int) (a0_2 : Int) (a0_3 : Bool) (r : List Int) (w : World) (h : impl_heldBy.f a0_0 a0_1 a0_2 a0_3 = some r) :
    Calls Try.prog 96 #[.agg #[.int .i64 a0_0, .int .i64 a0_1, .int .i64 a0_2, .bool a0_3]] w fun e w' => ∃ v0_ : Value, e = .returned (v0_) ∧ Kd.R (Kd.int .i64) 3 w' w.heap.size (fun _ => True) v0_ r ∧ Below w.heap.size w w' := by
  have hu84 := Try.underlying84
  have HB := Aside0.mk (Below.refl w.heap.size w)
  have H : (if a0_2 < 0 then (some (([a0_1] : List Int))) else (some (([a0_1, a0_2] : List Int)))) = some r := h
  clear h
  by_cases c2 : a0_2 < 0
  · rw [if_pos c2] at H
    have c2b0 : decide (a0_2 < 0) = true := decide_eq_true c2
    clear c2
    obtain ⟨y290, hy290⟩ : ∃ y_ : List Int, y_ = (([a0_1] : List Int)) := ⟨_, rfl⟩
    replace H : (some y290) = some r := by first | (rw [hy290]; with_reducible exact H) | (have H2_ := (Option.bind_some _ _).symm.trans H; rw [hy290]; with_reducible exact H2_) | (have H2_ := (Option.bind_some _ _).symm.trans H; with_reducible exact H2_) | with_reducible exact H | (rw [hy290]; exact H) | exact H
    have Ny290 := Aside0.mk hy290
    clear hy290
    obtain rfl := Option.some.inj H
    go_enter Try.func96, Try.ntmps96
    go_wp2_with (first | ((with_reducible refine gate_dst (N := 1) rfl ?_); refine box_event ?hg (N := 1) ?hd (cs := #[.int .i64 a0_0, .int .i64 a0_1, .int .i64 a0_2, .bool a0_3]) (t := 84) ?hr ?_; (case hd => rfl); (case hg => rfl); (case hr => first | (go_simp; done) | (go_simp; rfl)); intro gb289 hg w3 hbox hb; have n0_ := Aside0.mk (below_step (by repeat (first | (with_reducible first | exact HB.out | apply wa | apply wN | apply wd) | exact HB.out)) hb); have n1_ := Aside0.mk (hbox); have n2_ := Aside0.mk ((by rw [hg]; exact (below_size (by repeat (first | (with_reducible first | exact HB.out | apply wa | apply wN | apply wd) | exact HB.out))) : w.heap.size ≤ gb289)); have n3_ := n2_; clear HB; have HB := n0_; have BK289 := n1_; have GW289 := n2_; have GE289 := n3_; clear n0_ n1_ n2_ n3_; clear hb hbox hg; have hcz4_1 : w3.cell? ⟨gb289, 1, none⟩ = some (.int .i64 a0_1) := (bc BK289.out 1).trans rfl; have hcz4_2 : w3.cell? ⟨gb289, 2, none⟩ = some (.int .i64 a0_2) := (bc BK289.out 2).trans rfl) | ((with_reducible refine gate_dst (N := 8) rfl ?_); refine Kd.R_lit (Kd.int .i64) _ 3 ?hg (N := 8) ?hd (xs := ([a0_1] : List Int)) (inner := [.int .i64 a0_1]) (ok := fun _ => True) (okp := fun _ => True) ?hr ?hp (fun _ hk => hk) trivial (Below.refl _ _) (Nat.le_refl _) (by simp) ?_; (case hd => rfl); (case hg => rfl); (case hr => first | (go_simp; done) | (go_simp; rfl)); (case hp => exact (Reps.one (show Kd.M (Kd.int .i64) _ _ _ a0_1 [.int .i64 a0_1] from rfl) (Reps.none _ _))); intro v291 w5 ho6 hb hg_ hnew_; clear hg_ hnew_; (first | rw [← Ny290.out] at ho6 | (simp only [Int.reduceToNat] at ho6; rw [← Ny290.out] at ho6)); have n0_ := Aside0.mk (Kd.R_lower ho6 (below_size (by repeat (first | (with_reducible first | exact HB.out | apply wa | apply wN | apply wd | refine ws ?_ GE289.out) | exact HB.out)))); have n1_ := Aside0.mk (bb (g := gb289) (by first | (with_reducible exact BK289.out) | (with_reducible exact bN BK289.out _) | (with_reducible exact bd BK289.out) | ((with_reducible repeat first | apply bN | apply bd | apply ba); exact BK289.out)) hb); have n2_ := Aside0.mk (below_step (by repeat (first | (with_reducible first | exact HB.out | apply wa | apply wN | apply wd | refine ws ?_ GE289.out) | exact HB.out)) hb); clear BK289; clear HB; have HO292 := n0_; have BK289 := n1_; have HB := n2_; clear n0_ n1_ n2_; clear hb ho6))
    go_ret
    exact ⟨_, by first | rfl | (simp [errW_none, errW_some] <;> rfl) | (simp [*, errW_none, errW_some] <;> rfl), by (with_reducible repeat (first | apply Kd.Ra | apply Kd.Rn | apply Kd.Rd)); exact HO292.out, by repeat (first | (with_reducible first | exact HB.out | apply wa | apply wN | apply wd | refine ws ?_ GE289.out) | exact HB.out)⟩
  rw [if_neg c2] at H
  have c2b0 : decide (a0_2 < 0) = false := decide_eq_false c2
  clear c2
  obtain ⟨y293, hy293⟩ : ∃ y_ : List Int, y_ = (([a0_1, a0_2] : List Int)) := ⟨_, rfl⟩
  replace H : (some y293) = some r := by first | (rw [hy293]; with_reducible exact H) | (have H2_ := (Option.bind_some _ _).symm.trans H; rw [hy293]; with_reducible exact H2_) | (have H2_ := (Option.bind_some _ _).symm.trans H; with_reducible exact H2_) | with_reducible exact H | (rw [hy293]; exact H) | exact H
  have Ny293 := Aside0.mk hy293
  clear hy293
  obtain rfl := Option.some.inj H
  go_enter Try.func96, Try.ntmps96
  go_wp2_with (first | ((with_reducible refine gate_dst (N := 1) rfl ?_); refine box_event ?hg (N := 1) ?hd (cs := #[.int .i64 a0_0, .int .i64 a0_1, .int .i64 a0_2, .bool a0_3]) (t := 84) ?hr ?_; (case hd => rfl); (case hg => rfl); (case hr => first | (go_simp; done) | (go_simp; rfl)); intro gb289 hg w7 hbox hb; have n0_ := Aside0.mk (below_step (by repeat (first | (with_reducible first | exact HB.out | apply wa | apply wN | apply wd) | exact HB.out)) hb); have n1_ := Aside0.mk (hbox); have n2_ := Aside0.mk ((by rw [hg]; exact (below_size (by repeat (first | (with_reducible first | exact HB.out | apply wa | apply wN | apply wd) | exact HB.out))) : w.heap.size ≤ gb289)); have n3_ := n2_; clear HB; have HB := n0_; have BK289 := n1_; have GW289 := n2_; have GE289 := n3_; clear n0_ n1_ n2_ n3_; clear hb hbox hg; have hcz8_1 : w7.cell? ⟨gb289, 1, none⟩ = some (.int .i64 a0_1) := (bc BK289.out 1).trans rfl; have hcz8_2 : w7.cell? ⟨gb289, 2, none⟩ = some (.int .i64 a0_2) := (bc BK289.out 2).trans rfl) | ((with_reducible refine gate_dst (N := 13) rfl ?_); refine Kd.R_lit (Kd.int .i64) _ 3 ?hg (N := 13) ?hd (xs := ([a0_1, a0_2] : List Int)) (inner := [.int .i64 a0_1, .int .i64 a0_2]) (ok := fun _ => True) (okp := fun _ => True) ?hr ?hp (fun _ hk => hk) trivial (Below.refl _ _) (Nat.le_refl _) (by simp) ?_; (case hd => rfl); (case hg => rfl); (case hr => first | (go_simp; done) | (go_simp; rfl)); (case hp => exact (Reps.one (show Kd.M (Kd.int .i64) _ _ _ a0_1 [.int .i64 a0_1] from rfl) (Reps.one (show Kd.M (Kd.int .i64) _ _ _ a0_2 [.int .i64 a0_2] from rfl) (Reps.none _ _)))); intro v294 w9 ho10 hb hg_ hnew_; clear hg_ hnew_; (first | rw [← Ny293.out] at ho10 | (simp only [Int.reduceToNat] at ho10; rw [← Ny293.out] at ho10)); have n0_ := Aside0.mk (Kd.R_lower ho10 (below_size (by repeat (first | (with_reducible first | exact HB.out | apply wa | apply wN | apply wd | refine ws ?_ GE289.out) | exact HB.out)))); have n1_ := Aside0.mk (bb (g := gb289) (by first | (with_reducible exact BK289.out) | (with_reducible exact bN BK289.out _) | (with_reducible exact bd BK289.out) | ((with_reducible repeat first | apply bN | apply bd | apply ba); exact BK289.out)) hb); have n2_ := Aside0.mk (below_step (by repeat (first | (with_reducible first | exact HB.out | apply wa | apply wN | apply wd | refine ws ?_ GE289.out) | exact HB.out)) hb); clear BK289; clear HB; have HO295 := n0_; have BK289 := n1_; have HB := n2_; clear n0_ n1_ n2_; clear hb ho10))
  go_ret
  exact ⟨_, by first | rfl | (simp [errW_none, errW_some] <;> rfl) | (simp [*, errW_none, errW_some] <;> rfl), by (with_reducible repeat (first | apply Kd.Ra | apply Kd.Rn | apply Kd.Rd)); exact HO295.out, by repeat (first | (with_reducible first | exact HB.out | apply wa | apply wN | apply wd | refine ws ?_ GE289.out) | exact HB.out)⟩

/-! ### impl_areApart: function 80 -/
def impl_areApart.go : List S84 → List Int → Bool
  | [], _ => true
  | r :: t, s => if s.contains r.f1 then false else if r.f2 < 0 then impl_areApart.go t (r.f1 :: s) else if r.f2 = r.f1 then impl_areApart.go t (r.f1 :: s) else if (r.f1 :: s).contains r.f2 then false else impl_areApart.go t (r.f2 :: r.f1 :: s)
def impl_areApart.f (l0 : List (S84)) : Option (Bool) := if l0.length < 4611686018427387904 then (if (l0.all fun x => (Lit.int .i64 x.f1).wf && (Lit.int .i64 x.f2).wf) = true then some (impl_areApart.go l0 []) else none) else none
open Go.Proofs.Ytfinjkjnoobbjaa.MyOrd in
theorem impl_areApart.held1 (x : S84) (hx : x.f2 < 0) (w : World) : Calls Try.prog 96 #[.agg #[.int .i64 x.f0, .int .i64 x.f1, .int .i64 x.f2, .bool x.f3]] w fun e w' =>
    ∃ g cap, e = .returned (.slice (some ⟨g, 0, none⟩) 1 cap) ∧ w'.cell? ⟨g, 0, none⟩ = some (.int .i64 x.f1) ∧ w.heap.size ≤ g ∧ Below w.heap.size w w' := by
  refine (impl_heldBy.calls x.f0 x.f1 x.f2 x.f3 [x.f1] w (by unfold impl_heldBy.f; rw [if_pos hx])).mono ?_
  rintro e w' ⟨v, rfl, hR, hb⟩
  rcases rowAt_of_R hR with ⟨_, h0⟩ | ⟨g, cap, rfl, hg, _, _, hrow⟩
  · simp at h0
  · have h := (hrow.holds 0 (by simp)).1
    exact ⟨g, cap, rfl, by simpa using h, hg, hb⟩
open Go.Proofs.Ytfinjkjnoobbjaa.MyOrd in
theorem impl_areApart.held2 (x : S84) (hx : ¬ x.f2 < 0) (w : World) : Calls Try.prog 96 #[.agg #[.int .i64 x.f0, .int .i64 x.f1, .int .i64 x.f2, .bool x.f3]] w fun e w' =>
    ∃ g cap, e = .returned (.slice (some ⟨g, 0, none⟩) 2 cap) ∧ w'.cell? ⟨g, 0, none⟩ = some (.int .i64 x.f1) ∧ w'.cell? ⟨g, 1, none⟩ = some (.int .i64 x.f2) ∧ w.heap.size ≤ g ∧ Below w.heap.size w w' := by
  refine (impl_heldBy.calls x.f0 x.f1 x.f2 x.f3 [x.f1, x.f2] w (by unfold impl_heldBy.f; rw [if_neg hx])).mono ?_
  rintro e w' ⟨v, rfl, hR, hb⟩
  rcases rowAt_of_R hR with ⟨_, h0⟩ | ⟨g, cap, rfl, hg, _, _, hrow⟩
  · simp at h0
  · have h := (hrow.holds 0 (by simp)).1
    have h' := (hrow.holds 1 (by simp)).1
    exact ⟨g, cap, rfl, by simpa using h, by simpa using h', hg, hb⟩
open Go.Proofs.Ytfinjkjnoobbjaa.MySet Go.Maps in
set_option maxHeartbeats 4000000 in
set_option maxRecDepth 100000 in
theorem impl_areApart.calls (A0 : Option Addr) (c0 : Nat) (l0 : List (S84)) (r : Bool) (w : World) (hr0 : Kd.C k84 w A0 l0.length l0) (hc0 : l0.length ≤ c0) (h : impl_areApart.f l0 = some r) :
    Calls Try.prog 80 #[.slice A0 l0.length c0] w fun e w' => e = .returned (.bool r) ∧ Below w.heap.size w w' := by
  have hbig : l0.length < 4611686018427387904 := by
    unfold impl_areApart.f at h
    split at h
    · assumption
    · exact absurd h (by simp)
  have hwf : (l0.all fun x => (Lit.int .i64 x.f1).wf && (Lit.int .i64 x.f2).wf) = true := by
    unfold impl_areApart.f at h
    rw [if_pos hbig] at h
    split at h
    · assumption
    · exact absurd h (by simp)
  have hr : r = impl_areApart.go l0 [] := by
    unfold impl_areApart.f at h
    rw [if_pos hbig, if_pos hwf] at h
    exact (Option.some.inj h).symm
  rw [hr]
  clear h hr
  have hmx : 9223372036854775807 ≤ maxLen := by unfold maxLen; decide
  have hmm := @run_makeMap Try.prog
  have hu := Try.underlying84
  have law : Keyed Try.prog 3 := int_keyed Try.underlying3
  have HR := Aside0.mk hr0
  have HW := Aside0.mk hwf
  have HM := Aside0.mk hmx
  clear hr0 hc0 hwf hmx
  go_enter Try.func80, Try.ntmps80
  go_wp2
  go_loopg [11] l0.length (fun gg s11 wr => ∃ (x n : Nat) (s : List Int), s11 = .int .i64 x ∧ Aside0 (x ≤ l0.length ∧ l0.length - x ≤ gg ∧ n ≤ 2 * x) ∧ Aside0 (Below w.heap.size w wr) ∧ Aside0 (w.heap.size < wr.heap.size) ∧ Aside0 (SetAt Try.prog 3 4 wr w.heap.size n s) ∧ Aside0 (impl_areApart.go l0 [] = impl_areApart.go (l0.drop x) s))
  case atStart => exact ⟨0, 0, [], rfl, ⟨by omega⟩, ⟨wa (Below.refl _ w) _⟩, ⟨by simp⟩, ⟨SetAt.made _ _ _ w⟩, ⟨by simp⟩⟩
  case round =>
    obtain ⟨x, n, s, rfl, HX, HB, HS, HSET, HGO⟩ := hrel
    by_cases hlt : x < l0.length
    rotate_left
    · have HL := Aside0.mk hlt
      have hlt' : decide ((x : Int) < (l0.length : Int)) = false := decide_eq_false (by omega)
      have hlt2 : ¬ (x : Int) < (l0.length : Int) := by omega
      clear hlt
      go_wp2
      go_ret
      refine ⟨?_, HB.out⟩
      have : x = l0.length := by have := HL.out; have := HX.out; omega
      rw [HGO.out, this, List.drop_length]
      rfl
    obtain ⟨v, hv⟩ : ∃ v, v = l0[x] := ⟨_, rfl⟩
    have hv0 : rd_T84 l0 (x : Int) = v := by rw [hv]; simp [rd_T84, List.getD, hlt]
    have hvw : (Lit.int .i64 v.f1).wf = true ∧ (Lit.int .i64 v.f2).wf = true := by
      have := List.all_eq_true.1 HW.out v (by rw [hv]; exact List.getElem_mem hlt)
      simpa using this
    have hdrop : l0.drop x = v :: l0.drop (x + 1) := by rw [hv]; exact List.drop_eq_getElem_cons hlt
    have hgo := HGO.out
    rw [hdrop] at hgo
    obtain ⟨ad, e, hx0, hx1, hx2, hx3⟩ := at_T84 HR.out (x : Int) (by omega) (by omega)
    cases e
    rw [hv0] at hx0 hx1 hx2 hx3
    simp only [Int.toNat_natCast] at hx0 hx1 hx2 hx3
    replace hx0 := (HB.out.cell (World.block_lt_of_cell? w _ hx0)).trans hx0
    replace hx1 := (HB.out.cell (World.block_lt_of_cell? w _ hx1)).trans hx1
    replace hx2 := (HB.out.cell (World.block_lt_of_cell? w _ hx2)).trans hx2
    replace hx3 := (HB.out.cell (World.block_lt_of_cell? w _ hx3)).trans hx3
    have hlt1 : decide ((x : Int) < (l0.length : Int)) = true := decide_eq_true (by omega)
    have hlt2 : (x : Int) < (l0.length : Int) := by omega
    have hw : wrap64 ((x : Int) + 1) = ((x + 1 : Nat) : Int) := by unfold wrap64; omega
    have HWV := Aside0.mk hvw
    have HGO2 := Aside0.mk hgo
    have HLT := Aside0.mk hlt
    have HWR := Aside0.mk hw
    have hnm : n + 1 < maxLen := by have := HM.out; have := HX.out; omega
    have HNM := Aside0.mk hnm
    have hwr : w.heap.size < wr.heap.size := HS.out
    clear hv hv0 hvw hdrop hgo hw hnm hlt
    by_cases hneg : v.f2 < 0
    · have hheld := fun W => impl_areApart.held1 v hneg W
      have HH := Aside0.mk hheld
      have HNEG := Aside0.mk hneg
      clear hheld hneg
      go_wp2_with (first
        | ((with_reducible refine gate_dst (N := 5) rfl ?_); refine box_event ?hg (N := 5) ?hd (cs := #[.int .i64 0, .int .i64 0, .int .i64 0, .bool false]) (t := 84) ?hr ?_; (case hd => rfl); (case hg => rfl); (case hr => first | (go_simp; done) | (go_simp; rfl)); intro g5 hg5 w5 hbox5 hb5; replace hx0 := (hb5.cell (World.block_lt_of_cell? wr _ hx0)).trans hx0; replace hx1 := (hb5.cell (World.block_lt_of_cell? wr _ hx1)).trans hx1; replace hx2 := (hb5.cell (World.block_lt_of_cell? wr _ hx2)).trans hx2; replace hx3 := (hb5.cell (World.block_lt_of_cell? wr _ hx3)).trans hx3; have HB5 := Aside0.mk (below_step HB.out hb5); have S5 := Aside0.mk (HSET.out.below hb5); have BK5 := Aside0.mk hbox5; have WS5 : Aside0 (wr.heap.size ≤ w5.heap.size) := ⟨hb5.size⟩; have G5 : Aside0 (w.heap.size < g5) := ⟨by rw [hg5]; exact HS.out⟩; clear hb5 hbox5 hg5)
        | ((with_reducible refine gate_store (t := 84) (p := 5) rfl ?_); refine store_event (t := 84) (p := 5) (v := ?vo_w6) (w1 := (((w5.setCell ⟨g5, 0, none⟩ (.int .i64 v.f0)).setCell ⟨g5, 1, none⟩ (.int .i64 v.f1)).setCell ⟨g5, 2, none⟩ (.int .i64 v.f2)).setCell ⟨g5, 3, none⟩ (.bool v.f3)) ?hg ?ho ?hn ?hr ?_; (case ho => rfl); (case hg => rfl); (case hn => rfl); (case hr => exact Go.Proofs.Ytfinjkjnoobbjaa.MyHof.exec_store_run [.int .i64 v.f0, .int .i64 v.f1, .int .i64 v.f2, .bool v.f3] rfl rfl rfl BK5.out rfl (by kernel_rfl) (by simp) rfl rfl); intro w6 hw6; have HB6 : Aside0 (Below w.heap.size w w6) := ⟨by rw [hw6]; exact below_set4 HB5.out (Nat.le_of_lt G5.out)⟩; have BK6 : Aside0 (w6.heap[g5]? = some (.cells #[.int .i64 v.f0, .int .i64 v.f1, .int .i64 v.f2, .bool v.f3] 84 (0, 0))) := ⟨by rw [hw6]; exact blk_set4 BK5.out⟩; have S6 : Aside0 (SetAt Try.prog 3 4 w6 w.heap.size n s) := ⟨by rw [hw6]; exact S5.out.far (heap_far4 (Nat.ne_of_lt G5.out))⟩; have WS6 : Aside0 (wr.heap.size ≤ w6.heap.size) := ⟨by rw [hw6]; exact size_set4 WS5.out⟩; clear hw6 hx0 hx1 hx2 hx3; have hz0 : w6.cell? ⟨g5, 0, none⟩ = some (.int .i64 v.f0) := (bc BK6.out 0).trans rfl; have hz1 : w6.cell? ⟨g5, 1, none⟩ = some (.int .i64 v.f1) := (bc BK6.out 1).trans rfl; have hz2 : w6.cell? ⟨g5, 2, none⟩ = some (.int .i64 v.f2) := (bc BK6.out 2).trans rfl; have hz3 : w6.cell? ⟨g5, 3, none⟩ = some (.bool v.f3) := (bc BK6.out 3).trans rfl)
        | (go_at_call 96; refine (HH.out _).mono ?_; rintro e w7 ⟨gv, cv, rfl, hcv0, hgv, hb7⟩; have hB7 := below_step HB6.out hb7; have HB7 := Aside0.mk hB7; have S7 := Aside0.mk (S6.out.below hb7); have BK7 := Aside0.mk (bb BK6.out hb7); have GV : Aside0 (wr.heap.size ≤ gv) := ⟨Nat.le_trans WS6.out hgv⟩; clear hb7 hB7 hgv))
      refine wp_loop_rounds 2 ?_
      rw [rounds_succ]
      by_cases hc1 : s.contains v.f1 = true
      · have HC1 := Aside0.mk hc1
        clear hc1
        go_wp2_with (first
          | (at_lookup; refine wpList_lookup_set _ rfl _ _ 113 rfl law Try.underlying113 Try.underlying3 Try.underlying4 (Try.zeroValue4 _) w.heap.size n s rfl S7.out v.f1 rfl HWV.out.1 true HC1.out ?_))
        go_ret
        refine ⟨?_, HB7.out⟩
        rw [HGO2.out, impl_areApart.go, if_pos HC1.out]
        rfl
      have hc1' : s.contains v.f1 = false := by simpa using hc1
      have HC1 := Aside0.mk hc1'
      clear hc1 hc1'
      go_wp2_with (first
        | (at_lookup; refine wpList_lookup_set _ rfl _ _ 113 rfl law Try.underlying113 Try.underlying3 Try.underlying4 (Try.zeroValue4 _) w.heap.size n s rfl S7.out v.f1 rfl HWV.out.1 false HC1.out ?_)
        | (at_mapUpdate; refine wpList_store_set _ rfl _ _ _ 113 rfl law Try.underlying113 Try.underlying3 Try.underlying4 w.heap.size n s (by have := HNM.out; omega) rfl S7.out v.f1 rfl HWV.out.1 rfl ?_; intro w8 hset8 hg8; have S8 := Aside0.mk hset8; have HB8 := Aside0.mk (HB7.out.grown hg8 HB7.out.size (fun j hj => by cases hj; exact Nat.le_refl _)); have WS8 : Aside0 (w.heap.size < w8.heap.size) := ⟨S8.out.lt⟩; clear hset8 hg8))
      rw [rounds_succ]
      go_wp2
      go_roundg (l0.length - (x + 1))
      case measure => have := HLT.out; have := HX.out; omega
      case rel => exact ⟨x + 1, n + 1, v.f1 :: s, by first | rfl | (rw [HWR.out]) | simp [HWR.out], ⟨by have := HLT.out; have := HX.out; omega⟩, HB8, WS8, S8, ⟨by rw [HGO2.out, impl_areApart.go, if_neg (by rw [HC1.out]; simp), if_pos HNEG.out]⟩⟩
    have hpos : ¬ v.f2 < 0 := hneg
    have hheld := fun W => impl_areApart.held2 v hpos W
    have HH := Aside0.mk hheld
    have HNEG := Aside0.mk hpos
    clear hheld hneg hpos
    go_wp2_with (first
      | ((with_reducible refine gate_dst (N := 5) rfl ?_); refine box_event ?hg (N := 5) ?hd (cs := #[.int .i64 0, .int .i64 0, .int .i64 0, .bool false]) (t := 84) ?hr ?_; (case hd => rfl); (case hg => rfl); (case hr => first | (go_simp; done) | (go_simp; rfl)); intro g5 hg5 w5 hbox5 hb5; replace hx0 := (hb5.cell (World.block_lt_of_cell? wr _ hx0)).trans hx0; replace hx1 := (hb5.cell (World.block_lt_of_cell? wr _ hx1)).trans hx1; replace hx2 := (hb5.cell (World.block_lt_of_cell? wr _ hx2)).trans hx2; replace hx3 := (hb5.cell (World.block_lt_of_cell? wr _ hx3)).trans hx3; have HB5 := Aside0.mk (below_step HB.out hb5); have S5 := Aside0.mk (HSET.out.below hb5); have BK5 := Aside0.mk hbox5; have WS5 : Aside0 (wr.heap.size ≤ w5.heap.size) := ⟨hb5.size⟩; have G5 : Aside0 (w.heap.size < g5) := ⟨by rw [hg5]; exact HS.out⟩; clear hb5 hbox5 hg5)
      | ((with_reducible refine gate_store (t := 84) (p := 5) rfl ?_); refine store_event (t := 84) (p := 5) (v := ?vo_w6) (w1 := (((w5.setCell ⟨g5, 0, none⟩ (.int .i64 v.f0)).setCell ⟨g5, 1, none⟩ (.int .i64 v.f1)).setCell ⟨g5, 2, none⟩ (.int .i64 v.f2)).setCell ⟨g5, 3, none⟩ (.bool v.f3)) ?hg ?ho ?hn ?hr ?_; (case ho => rfl); (case hg => rfl); (case hn => rfl); (case hr => exact Go.Proofs.Ytfinjkjnoobbjaa.MyHof.exec_store_run [.int .i64 v.f0, .int .i64 v.f1, .int .i64 v.f2, .bool v.f3] rfl rfl rfl BK5.out rfl (by kernel_rfl) (by simp) rfl rfl); intro w6 hw6; have HB6 : Aside0 (Below w.heap.size w w6) := ⟨by rw [hw6]; exact below_set4 HB5.out (Nat.le_of_lt G5.out)⟩; have BK6 : Aside0 (w6.heap[g5]? = some (.cells #[.int .i64 v.f0, .int .i64 v.f1, .int .i64 v.f2, .bool v.f3] 84 (0, 0))) := ⟨by rw [hw6]; exact blk_set4 BK5.out⟩; have S6 : Aside0 (SetAt Try.prog 3 4 w6 w.heap.size n s) := ⟨by rw [hw6]; exact S5.out.far (heap_far4 (Nat.ne_of_lt G5.out))⟩; have WS6 : Aside0 (wr.heap.size ≤ w6.heap.size) := ⟨by rw [hw6]; exact size_set4 WS5.out⟩; clear hw6 hx0 hx1 hx2 hx3; have hz0 : w6.cell? ⟨g5, 0, none⟩ = some (.int .i64 v.f0) := (bc BK6.out 0).trans rfl; have hz1 : w6.cell? ⟨g5, 1, none⟩ = some (.int .i64 v.f1) := (bc BK6.out 1).trans rfl; have hz2 : w6.cell? ⟨g5, 2, none⟩ = some (.int .i64 v.f2) := (bc BK6.out 2).trans rfl; have hz3 : w6.cell? ⟨g5, 3, none⟩ = some (.bool v.f3) := (bc BK6.out 3).trans rfl)
      | (go_at_call 96; refine (HH.out _).mono ?_; rintro e w7 ⟨gv, cv, rfl, hcv0, hcv1, hgv, hb7⟩; have hB7 := below_step HB6.out hb7; have HB7 := Aside0.mk hB7; have S7 := Aside0.mk (S6.out.below hb7); have BK7 := Aside0.mk (bb BK6.out hb7); have GV : Aside0 (wr.heap.size ≤ gv) := ⟨Nat.le_trans WS6.out hgv⟩; clear hb7 hB7 hgv))
    have NE1 : Aside0 (∀ w8, w7.grownBy w8 (some w.heap.size) → w8.cell? ⟨gv, 1, none⟩ = some (.int .i64 v.f2)) := ⟨fun w8 hg => grown_cell hg hcv1 (by
      have h1 := GV.out
      have h2 := HS.out
      show (some gv : Option Nat) ≠ some w.heap.size
      intro e
      injection e with e
      omega)⟩
    have NE2 : Aside0 (∀ w8, w7.grownBy w8 (some w.heap.size) → w8.cell? ⟨g5, 1, none⟩ = some (.int .i64 v.f1)) := ⟨fun w8 hg => (bc (blk_grown BK7.out hg (by
      have h1 := G5.out
      intro e
      injection e with e
      omega)) 1).trans rfl⟩
    refine wp_loop_rounds 3 ?_
    rw [rounds_succ]
    by_cases hc1 : s.contains v.f1 = true
    · have HC1 := Aside0.mk hc1
      clear hc1
      go_wp2_with (first
        | (at_lookup; refine wpList_lookup_set _ rfl _ _ 113 rfl law Try.underlying113 Try.underlying3 Try.underlying4 (Try.zeroValue4 _) w.heap.size n s rfl S7.out v.f1 rfl HWV.out.1 true HC1.out ?_))
      go_ret
      refine ⟨?_, HB7.out⟩
      rw [HGO2.out, impl_areApart.go, if_pos HC1.out]
      rfl
    have hc1' : s.contains v.f1 = false := by simpa using hc1
    have HC1 := Aside0.mk hc1'
    clear hc1 hc1'
    go_wp2_with (first
      | (at_lookup; refine wpList_lookup_set _ rfl _ _ 113 rfl law Try.underlying113 Try.underlying3 Try.underlying4 (Try.zeroValue4 _) w.heap.size n s rfl S7.out v.f1 rfl HWV.out.1 false HC1.out ?_)
      | (at_mapUpdate; refine wpList_store_set _ rfl _ _ _ 113 rfl law Try.underlying113 Try.underlying3 Try.underlying4 w.heap.size n s (by have := HNM.out; omega) rfl S7.out v.f1 rfl HWV.out.1 rfl ?_; intro w8 hset8 hg8; have S8 := Aside0.mk hset8; have HB8 := Aside0.mk (HB7.out.grown hg8 HB7.out.size (fun j hj => by cases hj; exact Nat.le_refl _)); have WS8 : Aside0 (w.heap.size < w8.heap.size) := ⟨S8.out.lt⟩; have hd1 := NE1.out _ hg8; have hy1 := NE2.out _ hg8; clear hset8 hg8))
    rw [rounds_succ]
    by_cases heq : v.f2 = v.f1
    · have HE := Aside0.mk heq
      have hd1' : w8.cell? ⟨gv, 1, none⟩ = some (.int .i64 v.f1) := by rw [hd1, heq]
      clear heq hd1
      go_wp2
      rw [rounds_succ]
      go_wp2
      go_roundg (l0.length - (x + 1))
      case measure => have := HLT.out; have := HX.out; omega
      case rel => exact ⟨x + 1, n + 1, v.f1 :: s, by first | rfl | (rw [HWR.out]) | simp [HWR.out], ⟨by have := HLT.out; have := HX.out; omega⟩, HB8, WS8, S8, ⟨by rw [HGO2.out, impl_areApart.go, if_neg (by rw [HC1.out]; simp), if_neg (by have := HNEG.out; omega), if_pos HE.out]⟩⟩
    have HE := Aside0.mk heq
    have heq' : decide (v.f2 = v.f1) = false := decide_eq_false heq
    have heq2 : (v.f2 == v.f1) = false := by simpa using heq
    by_cases hc2 : (v.f1 :: s).contains v.f2 = true
    · have HC2 := Aside0.mk hc2
      clear hc2
      go_wp2_with (first
        | (at_lookup; refine wpList_lookup_set _ rfl _ _ 113 rfl law Try.underlying113 Try.underlying3 Try.underlying4 (Try.zeroValue4 _) w.heap.size (n + 1) (v.f1 :: s) rfl S8.out v.f2 rfl HWV.out.2 true HC2.out ?_))
      go_ret
      refine ⟨?_, HB8.out⟩
      rw [HGO2.out, impl_areApart.go, if_neg (by rw [HC1.out]; simp), if_neg (by have := HNEG.out; omega), if_neg HE.out, if_pos HC2.out]
      rfl
    have hc2' : (v.f1 :: s).contains v.f2 = false := by simpa using hc2
    have HC2 := Aside0.mk hc2'
    clear hc2 hc2'
    go_wp2_with (first
      | (at_lookup; refine wpList_lookup_set _ rfl _ _ 113 rfl law Try.underlying113 Try.underlying3 Try.underlying4 (Try.zeroValue4 _) w.heap.size (n + 1) (v.f1 :: s) rfl S8.out v.f2 rfl HWV.out.2 false HC2.out ?_)
      | (at_mapUpdate; refine wpList_store_set _ rfl _ _ _ 113 rfl law Try.underlying113 Try.underlying3 Try.underlying4 w.heap.size (n + 1) (v.f1 :: s) HNM.out rfl S8.out v.f2 rfl HWV.out.2 rfl ?_; intro w9 hset9 hg9; have S9 := Aside0.mk hset9; have HB9 := Aside0.mk (HB8.out.grown hg9 HB8.out.size (fun j hj => by cases hj; exact Nat.le_refl _)); have WS9 : Aside0 (w.heap.size < w9.heap.size) := ⟨S9.out.lt⟩; clear hset9 hg9))
    rw [rounds_succ]
    go_wp2
    go_roundg (l0.length - (x + 1))
    case measure => have := HLT.out; have := HX.out; omega
    case rel => exact ⟨x + 1, n + 2, v.f2 :: v.f1 :: s, by first | rfl | (rw [HWR.out]) | simp [HWR.out], ⟨by have := HLT.out; have := HX.out; omega⟩, HB9, WS9, S9, ⟨by rw [HGO2.out, impl_areApart.go, if_neg (by rw [HC1.out]; simp), if_neg (by have := HNEG.out; omega), if_neg HE.out, if_neg (by rw [HC2.out]; simp)]⟩⟩

end Go.Proofs.Ytfinjkjnoobbjaa.MFnTeams
