/- Made by a program of this session (out of the kit's print, with hand-made contracts): what each Go function that the law reaches computes, and that the machine's call does so. -/
import Derived.Test.YtfinjkjnoobbjaaXFnExactNamesInMyHof
import Derived.Test.YtfinjkjnoobbjaaMFnExactNamesInx0
import Derived.Test.YtfinjkjnoobbjaaMFnExactNamesInx1
import Derived.Test.YtfinjkjnoobbjaaMFnExactNamesInx3
import Derived.Test.YtfinjkjnoobbjaaMFnExactNamesInx4
import Derived.Test.YtfinjkjnoobbjaaMFnExactNamesInx5
import Derived.Test.YtfinjkjnoobbjaaMFnExactNamesInx6
import Derived.Test.YtfinjkjnoobbjaaMFnExactNamesInx7
import Derived.Test.YtfinjkjnoobbjaaMFnExactNamesInx9
import Derived.Test.YtfinjkjnoobbjaaMFnExactNamesInx10
import Derived.Test.YtfinjkjnoobbjaaMFnExactNamesInx11
namespace Go.Proofs.Ytfinjkjnoobbjaa.MFnExactNamesIn
open Go.RowKit Go.Proofs.YtfinjkjnoobbjaaW.PrintWords Go.Proofs.YtfinjkjnoobbjaaW.PrintLast Go.Proofs.YtfinjkjnoobbjaaW.PrintMore
attribute [local go_sem] max2_int min2_int max_two min_two max_three min_three max_four min_four   -- for this text's walks alone
set_option linter.unusedVariables false
set_option linter.unusedSimpArgs false

/-! ### laws_FnExactNamesIn: function 6 -/
def laws_FnExactNamesIn.j0 : Nat → List (S125) → List (S118) → List Int → List Int → Bool → Option (Bool)
  | 0, _, _, _, _, _ => none
  | k + 1, x0, x1, x6, x9, x63 => if x63 = true then (none) else ((laws_markIntS.f k x9 1).bind fun bt258 => ((laws_heldIntS.f k bt258.2 1).bind fun t260 => (if t260 < 0 then (none) else (if t260 = bt258.1 then ((laws_toCmdS.f k x0).bind fun t261 => ((laws_toReplyS.f k x1).bind fun t264 => ((impl_NamesIn.f k t261 t264).bind fun t267 => ((laws_eqIntS.f k t267 x6).bind fun t270 => (if t270 = true then ((laws_heldIntS.f k bt258.2 1).bind fun t271 => (if t271 < 0 then (none) else (if t271 = bt258.1 then (some true) else (none)))) else (none)))))) else (none)))))
def laws_FnExactNamesIn.f (k : Nat) (l0 : List (S125)) (l1 : List (S118)) : Option (Bool) := (laws_szCmdS.f l0 1048576).bind fun t225 => (if t225 < 0 then (some true) else ((laws_szReplyS.f k l1 t225).bind fun t226 => (if t226 < 0 then (some true) else ((laws_toCmdS.f k l0).bind fun t227 => ((laws_toReplyS.f k l1).bind fun t230 => ((spec_NamesIn.f k t227 t230).bind fun t233 => ((laws_toCmdS.f k l0).bind fun t236 => ((laws_toReplyS.f k l1).bind fun t239 => ((impl_NamesIn.f k t236 t239).bind fun t242 => ((laws_eqIntS.f k t242 t233).bind fun t245 => (if t245 = true then ((laws_toCmdS.f k l0).bind fun t246 => ((laws_eqCmdS.f k t236 t246).bind fun t249 => (if t249 = true then ((laws_toReplyS.f k l1).bind fun t250 => ((laws_eqReplyS.f k t239 t250).bind fun t253 => (if t253 = true then ((laws_markCmdS.f k t236 1).bind fun bt254 => ((laws_markReplyS.f k t239 bt254.1).bind fun t256 => (if t256 < 0 then (laws_FnExactNamesIn.j0 k l0 l1 t233 t242 true) else ((laws_eqIntS.f k t242 t233).bind fun t257 => (laws_FnExactNamesIn.j0 k l0 l1 t233 t242 (!t257)))))) else (none)))) else (none)))) else (none))))))))))))
theorem laws_FnExactNamesIn.mono_l : ∀ k, (∀ y0 y1 y2 y3 y4, LeO (laws_FnExactNamesIn.j0 k y0 y1 y2 y3 y4) (laws_FnExactNamesIn.j0 (k + 1) y0 y1 y2 y3 y4))
  | 0 => fun _ _ _ _ _ r h => by simp [laws_FnExactNamesIn.j0] at h
  | k + 1 => by
    have ih0 := laws_FnExactNamesIn.mono_l k
    · intro y0 y1 y2 y3 y4
      unfold laws_FnExactNamesIn.j0
      repeat' first
      | (with_reducible exact ih0 _ _ _ _ _)
      | (with_reducible exact impl_NamesIn.mono _ _ _)
      | (with_reducible exact laws_eqCmdS.mono _ _ _)
      | (with_reducible exact laws_eqIntS.mono _ _ _)
      | (with_reducible exact laws_eqReplyS.mono _ _ _)
      | (with_reducible exact laws_heldIntS.mono _ _ _)
      | (with_reducible exact laws_markCmdS.mono _ _ _)
      | (with_reducible exact laws_markIntS.mono _ _ _)
      | (with_reducible exact laws_markReplyS.mono _ _ _)
      | (with_reducible exact laws_szReplyS.mono _ _ _)
      | (with_reducible exact laws_toCmdS.mono _ _)
      | (with_reducible exact laws_toReplyS.mono _ _)
      | (with_reducible exact spec_NamesIn.mono _ _ _)
      | (with_reducible exact LeO.refl _)
      | (with_reducible exact LeO.none _)
      | (with_reducible refine LeO.ite ?_ ?_)
      | (with_reducible refine LeO.bind ?_ (fun _ => ?_))
      | exact ih0 _ _ _ _ _
      | exact impl_NamesIn.mono _ _ _
      | exact laws_eqCmdS.mono _ _ _
      | exact laws_eqIntS.mono _ _ _
      | exact laws_eqReplyS.mono _ _ _
      | exact laws_heldIntS.mono _ _ _
      | exact laws_markCmdS.mono _ _ _
      | exact laws_markIntS.mono _ _ _
      | exact laws_markReplyS.mono _ _ _
      | exact laws_szReplyS.mono _ _ _
      | exact laws_toCmdS.mono _ _
      | exact laws_toReplyS.mono _ _
      | exact spec_NamesIn.mono _ _ _
      | exact LeO.none _
      | refine LeO.ite ?_ ?_
      | refine LeO.bind ?_ (fun _ => ?_)
theorem laws_FnExactNamesIn.mono : ∀ a0 a1 k, LeO (laws_FnExactNamesIn.f k a0 a1) (laws_FnExactNamesIn.f (k + 1) a0 a1) := by
  intro a0 a1 k
  have ih0 := laws_FnExactNamesIn.mono_l k
  unfold laws_FnExactNamesIn.f
  repeat' first
      | (with_reducible exact ih0 _ _ _ _ _)
      | (with_reducible exact impl_NamesIn.mono _ _ _)
      | (with_reducible exact laws_eqCmdS.mono _ _ _)
      | (with_reducible exact laws_eqIntS.mono _ _ _)
      | (with_reducible exact laws_eqReplyS.mono _ _ _)
      | (with_reducible exact laws_heldIntS.mono _ _ _)
      | (with_reducible exact laws_markCmdS.mono _ _ _)
      | (with_reducible exact laws_markIntS.mono _ _ _)
      | (with_reducible exact laws_markReplyS.mono _ _ _)
      | (with_reducible exact laws_szReplyS.mono _ _ _)
      | (with_reducible exact laws_toCmdS.mono _ _)
      | (with_reducible exact laws_toReplyS.mono _ _)
      | (with_reducible exact spec_NamesIn.mono _ _ _)
      | (with_reducible exact LeO.refl _)
      | (with_reducible exact LeO.none _)
      | (with_reducible refine LeO.ite ?_ ?_)
      | (with_reducible refine LeO.bind ?_ (fun _ => ?_))
      | exact ih0 _ _ _ _ _
      | exact impl_NamesIn.mono _ _ _
      | exact laws_eqCmdS.mono _ _ _
      | exact laws_eqIntS.mono _ _ _
      | exact laws_eqReplyS.mono _ _ _
      | exact laws_heldIntS.mono _ _ _
      | exact laws_markCmdS.mono _ _ _
      | exact laws_markIntS.mono _ _ _
      | exact laws_markReplyS.mono _ _ _
      | exact laws_szReplyS.mono _ _ _
      | exact laws_toCmdS.mono _ _
      | exact laws_toReplyS.mono _ _
      | exact spec_NamesIn.mono _ _ _
      | exact LeO.none _
      | refine LeO.ite ?_ ?_
      | refine LeO.bind ?_ (fun _ => ?_)
set_option maxHeartbeats 8000000 in
set_option maxRecDepth 100000 in
theorem laws_FnExactNamesIn.calls (k : Nat) (A0 : Option Addr) (c0 : Nat) (l0 : List (S125)) (A1 : Option Addr) (c1 : Nat) (l1 : List (S118)) (r : Bool) (w : World) (hr0 : Kd.C k125 w A0 l0.length l0) (hc0 : l0.length ≤ c0) (hr1 : Kd.C k118 w A1 l1.length l1) (hc1 : l1.length ≤ c1) (h : laws_FnExactNamesIn.f k l0 l1 = some r) :
    Calls Try.prog 6 #[.slice A0 l0.length c0, .slice A1 l1.length c1] w fun e w' => e = .returned (.bool r) ∧ Below w.heap.size w w' := by
  have HR0 := Aside0.mk hr0
  have HC0 := Aside0.mk hc0
  clear hr0 hc0
  have HR1 := Aside0.mk hr1
  have HC1 := Aside0.mk hc1
  clear hr1 hc1
  have HB := Aside0.mk (Below.refl w.heap.size w)
  have H : ((laws_szCmdS.f l0 1048576).bind fun t225 => (if t225 < 0 then (some true) else ((laws_szReplyS.f k l1 t225).bind fun t226 => (if t226 < 0 then (some true) else ((laws_toCmdS.f k l0).bind fun t227 => ((laws_toReplyS.f k l1).bind fun t230 => ((spec_NamesIn.f k t227 t230).bind fun t233 => ((laws_toCmdS.f k l0).bind fun t236 => ((laws_toReplyS.f k l1).bind fun t239 => ((impl_NamesIn.f k t236 t239).bind fun t242 => ((laws_eqIntS.f k t242 t233).bind fun t245 => (if t245 = true then ((laws_toCmdS.f k l0).bind fun t246 => ((laws_eqCmdS.f k t236 t246).bind fun t249 => (if t249 = true then ((laws_toReplyS.f k l1).bind fun t250 => ((laws_eqReplyS.f k t239 t250).bind fun t253 => (if t253 = true then ((laws_markCmdS.f k t236 1).bind fun bt254 => ((laws_markReplyS.f k t239 bt254.1).bind fun t256 => (if t256 < 0 then (laws_FnExactNamesIn.j0 k l0 l1 t233 t242 true) else ((laws_eqIntS.f k t242 t233).bind fun t257 => (laws_FnExactNamesIn.j0 k l0 l1 t233 t242 (!t257)))))) else (none)))) else (none)))) else (none))))))))))))) = some r := h
  clear h
  replace H := Option.bind_eq_some_iff.mp H
  obtain ⟨t225, A30, H⟩ := H
  replace H : (if t225 < 0 then (some true) else ((laws_szReplyS.f k l1 t225).bind fun t226 => (if t226 < 0 then (some true) else ((laws_toCmdS.f k l0).bind fun t227 => ((laws_toReplyS.f k l1).bind fun t230 => ((spec_NamesIn.f k t227 t230).bind fun t233 => ((laws_toCmdS.f k l0).bind fun t236 => ((laws_toReplyS.f k l1).bind fun t239 => ((impl_NamesIn.f k t236 t239).bind fun t242 => ((laws_eqIntS.f k t242 t233).bind fun t245 => (if t245 = true then ((laws_toCmdS.f k l0).bind fun t246 => ((laws_eqCmdS.f k t236 t246).bind fun t249 => (if t249 = true then ((laws_toReplyS.f k l1).bind fun t250 => ((laws_eqReplyS.f k t239 t250).bind fun t253 => (if t253 = true then ((laws_markCmdS.f k t236 1).bind fun bt254 => ((laws_markReplyS.f k t239 bt254.1).bind fun t256 => (if t256 < 0 then (laws_FnExactNamesIn.j0 k l0 l1 t233 t242 true) else ((laws_eqIntS.f k t242 t233).bind fun t257 => (laws_FnExactNamesIn.j0 k l0 l1 t233 t242 (!t257)))))) else (none)))) else (none)))) else (none)))))))))))) = some r := H
  have A3 := Aside0.mk A30
  clear A30
  by_cases c4 : t225 < 0
  · rw [if_pos c4] at H
    have c4b0 : decide (t225 < 0) = true := decide_eq_true c4
    clear c4
    obtain rfl := Option.some.inj H
    go_enter Try.func6, Try.ntmps6
    go_wp2_with (first | ((with_reducible refine gate_callee (f := 22) rfl ?_); refine goesL_ (some 16) rfl rfl Try.func22 (by kernel_rfl) rfl #[.slice A0 l0.length c0, .int .i64 1048576] rfl (by (try simp only [List.map_toArray, List.map_cons, List.map_nil]); first | done | rfl | (simp only [List.length_drop, List.length_take]; rfl)) ?_; (with_reducible refine (laws_szCmdS.calls _ _ l0 1048576 t225 _ ?side1 ?side2 A3.out).mono ?_); (case side1 => repeat (first | exact HR0.out | (with_reducible refine Kd.C_alloc ?_ _) | (with_reducible refine Kd.C_drewN ?_ _) | (with_reducible refine Kd.C_drew ?_))); (case side2 => exact HC0.out); rintro e w' ⟨rfl, ⟨nd, rfl⟩⟩; refine ⟨_, rfl, ?_⟩))
    go_ret
    exact ⟨by first | rfl | (simp [errW_none, errW_some] <;> rfl) | (simp [*, errW_none, errW_some] <;> rfl), by repeat (first | (with_reducible first | exact HB.out | apply below_alloc | apply pw_below_drewN | apply below_drew1) | exact HB.out)⟩
  rw [if_neg c4] at H
  have c4b0 : decide (t225 < 0) = false := decide_eq_false c4
  clear c4
  replace H := Option.bind_eq_some_iff.mp H
  obtain ⟨t226, A50, H⟩ := H
  replace H : (if t226 < 0 then (some true) else ((laws_toCmdS.f k l0).bind fun t227 => ((laws_toReplyS.f k l1).bind fun t230 => ((spec_NamesIn.f k t227 t230).bind fun t233 => ((laws_toCmdS.f k l0).bind fun t236 => ((laws_toReplyS.f k l1).bind fun t239 => ((impl_NamesIn.f k t236 t239).bind fun t242 => ((laws_eqIntS.f k t242 t233).bind fun t245 => (if t245 = true then ((laws_toCmdS.f k l0).bind fun t246 => ((laws_eqCmdS.f k t236 t246).bind fun t249 => (if t249 = true then ((laws_toReplyS.f k l1).bind fun t250 => ((laws_eqReplyS.f k t239 t250).bind fun t253 => (if t253 = true then ((laws_markCmdS.f k t236 1).bind fun bt254 => ((laws_markReplyS.f k t239 bt254.1).bind fun t256 => (if t256 < 0 then (laws_FnExactNamesIn.j0 k l0 l1 t233 t242 true) else ((laws_eqIntS.f k t242 t233).bind fun t257 => (laws_FnExactNamesIn.j0 k l0 l1 t233 t242 (!t257)))))) else (none)))) else (none)))) else (none)))))))))) = some r := H
  have A5 := Aside0.mk A50
  clear A50
  by_cases c6 : t226 < 0
  · rw [if_pos c6] at H
    have c6b0 : decide (t226 < 0) = true := decide_eq_true c6
    clear c6
    obtain rfl := Option.some.inj H
    go_enter Try.func6, Try.ntmps6
    go_wp2_with (first | ((with_reducible refine gate_callee (f := 22) rfl ?_); refine goesL_ (some 16) rfl rfl Try.func22 (by kernel_rfl) rfl #[.slice A0 l0.length c0, .int .i64 1048576] rfl (by (try simp only [List.map_toArray, List.map_cons, List.map_nil]); first | done | rfl | (simp only [List.length_drop, List.length_take]; rfl)) ?_; (with_reducible refine (laws_szCmdS.calls _ _ l0 1048576 t225 _ ?side1 ?side2 A3.out).mono ?_); (case side1 => repeat (first | exact HR0.out | (with_reducible refine Kd.C_alloc ?_ _) | (with_reducible refine Kd.C_drewN ?_ _) | (with_reducible refine Kd.C_drew ?_))); (case side2 => exact HC0.out); rintro e w' ⟨rfl, ⟨nd, rfl⟩⟩; refine ⟨_, rfl, ?_⟩) | ((with_reducible refine gate_callee (f := 23) rfl ?_); refine goesL_ (some 21) rfl rfl Try.func23 (by kernel_rfl) rfl #[.slice A1 l1.length c1, .int .i64 t225] rfl (by (try simp only [List.map_toArray, List.map_cons, List.map_nil]); first | done | rfl | (simp only [List.length_drop, List.length_take]; rfl)) ?_; (with_reducible refine (laws_szReplyS.calls k _ _ l1 t225 t226 _ ?side1 ?side2 A5.out).mono ?_); (case side1 => repeat (first | exact HR1.out | (with_reducible refine Kd.C_alloc ?_ _) | (with_reducible refine Kd.C_drewN ?_ _) | (with_reducible refine Kd.C_drew ?_))); (case side2 => exact HC1.out); rintro e w7 ⟨rfl, hb⟩; refine ⟨_, rfl, ?_⟩; have n0_ := Aside0.mk (below_step (by repeat (first | (with_reducible first | exact HB.out | apply below_alloc | apply pw_below_drewN | apply below_drew1) | exact HB.out)) hb); clear HB; have HB := n0_; clear n0_; (try clear hb); (try clear hb2); (try clear hk); (try clear hi)))
    go_ret
    exact ⟨by first | rfl | (simp [errW_none, errW_some] <;> rfl) | (simp [*, errW_none, errW_some] <;> rfl), by repeat (first | (with_reducible first | exact HB.out | apply below_alloc | apply pw_below_drewN | apply below_drew1) | exact HB.out)⟩
  rw [if_neg c6] at H
  have c6b0 : decide (t226 < 0) = false := decide_eq_false c6
  clear c6
  replace H := Option.bind_eq_some_iff.mp H
  obtain ⟨t227, A80, H⟩ := H
  replace H : ((laws_toReplyS.f k l1).bind fun t230 => ((spec_NamesIn.f k t227 t230).bind fun t233 => ((laws_toCmdS.f k l0).bind fun t236 => ((laws_toReplyS.f k l1).bind fun t239 => ((impl_NamesIn.f k t236 t239).bind fun t242 => ((laws_eqIntS.f k t242 t233).bind fun t245 => (if t245 = true then ((laws_toCmdS.f k l0).bind fun t246 => ((laws_eqCmdS.f k t236 t246).bind fun t249 => (if t249 = true then ((laws_toReplyS.f k l1).bind fun t250 => ((laws_eqReplyS.f k t239 t250).bind fun t253 => (if t253 = true then ((laws_markCmdS.f k t236 1).bind fun bt254 => ((laws_markReplyS.f k t239 bt254.1).bind fun t256 => (if t256 < 0 then (laws_FnExactNamesIn.j0 k l0 l1 t233 t242 true) else ((laws_eqIntS.f k t242 t233).bind fun t257 => (laws_FnExactNamesIn.j0 k l0 l1 t233 t242 (!t257)))))) else (none)))) else (none)))) else (none)))))))) = some r := H
  have A8 := Aside0.mk A80
  clear A80
  replace H := Option.bind_eq_some_iff.mp H
  obtain ⟨t230, A90, H⟩ := H
  replace H : ((spec_NamesIn.f k t227 t230).bind fun t233 => ((laws_toCmdS.f k l0).bind fun t236 => ((laws_toReplyS.f k l1).bind fun t239 => ((impl_NamesIn.f k t236 t239).bind fun t242 => ((laws_eqIntS.f k t242 t233).bind fun t245 => (if t245 = true then ((laws_toCmdS.f k l0).bind fun t246 => ((laws_eqCmdS.f k t236 t246).bind fun t249 => (if t249 = true then ((laws_toReplyS.f k l1).bind fun t250 => ((laws_eqReplyS.f k t239 t250).bind fun t253 => (if t253 = true then ((laws_markCmdS.f k t236 1).bind fun bt254 => ((laws_markReplyS.f k t239 bt254.1).bind fun t256 => (if t256 < 0 then (laws_FnExactNamesIn.j0 k l0 l1 t233 t242 true) else ((laws_eqIntS.f k t242 t233).bind fun t257 => (laws_FnExactNamesIn.j0 k l0 l1 t233 t242 (!t257)))))) else (none)))) else (none)))) else (none))))))) = some r := H
  have A9 := Aside0.mk A90
  clear A90
  replace H := Option.bind_eq_some_iff.mp H
  obtain ⟨t233, A100, H⟩ := H
  replace H : ((laws_toCmdS.f k l0).bind fun t236 => ((laws_toReplyS.f k l1).bind fun t239 => ((impl_NamesIn.f k t236 t239).bind fun t242 => ((laws_eqIntS.f k t242 t233).bind fun t245 => (if t245 = true then ((laws_toCmdS.f k l0).bind fun t246 => ((laws_eqCmdS.f k t236 t246).bind fun t249 => (if t249 = true then ((laws_toReplyS.f k l1).bind fun t250 => ((laws_eqReplyS.f k t239 t250).bind fun t253 => (if t253 = true then ((laws_markCmdS.f k t236 1).bind fun bt254 => ((laws_markReplyS.f k t239 bt254.1).bind fun t256 => (if t256 < 0 then (laws_FnExactNamesIn.j0 k l0 l1 t233 t242 true) else ((laws_eqIntS.f k t242 t233).bind fun t257 => (laws_FnExactNamesIn.j0 k l0 l1 t233 t242 (!t257)))))) else (none)))) else (none)))) else (none)))))) = some r := H
  have A10 := Aside0.mk A100
  clear A100
  replace H := Option.bind_eq_some_iff.mp H
  obtain ⟨t236, A110, H⟩ := H
  replace H : ((laws_toReplyS.f k l1).bind fun t239 => ((impl_NamesIn.f k t236 t239).bind fun t242 => ((laws_eqIntS.f k t242 t233).bind fun t245 => (if t245 = true then ((laws_toCmdS.f k l0).bind fun t246 => ((laws_eqCmdS.f k t236 t246).bind fun t249 => (if t249 = true then ((laws_toReplyS.f k l1).bind fun t250 => ((laws_eqReplyS.f k t239 t250).bind fun t253 => (if t253 = true then ((laws_markCmdS.f k t236 1).bind fun bt254 => ((laws_markReplyS.f k t239 bt254.1).bind fun t256 => (if t256 < 0 then (laws_FnExactNamesIn.j0 k l0 l1 t233 t242 true) else ((laws_eqIntS.f k t242 t233).bind fun t257 => (laws_FnExactNamesIn.j0 k l0 l1 t233 t242 (!t257)))))) else (none)))) else (none)))) else (none))))) = some r := H
  have A11 := Aside0.mk A110
  clear A110
  replace H := Option.bind_eq_some_iff.mp H
  obtain ⟨t239, A120, H⟩ := H
  replace H : ((impl_NamesIn.f k t236 t239).bind fun t242 => ((laws_eqIntS.f k t242 t233).bind fun t245 => (if t245 = true then ((laws_toCmdS.f k l0).bind fun t246 => ((laws_eqCmdS.f k t236 t246).bind fun t249 => (if t249 = true then ((laws_toReplyS.f k l1).bind fun t250 => ((laws_eqReplyS.f k t239 t250).bind fun t253 => (if t253 = true then ((laws_markCmdS.f k t236 1).bind fun bt254 => ((laws_markReplyS.f k t239 bt254.1).bind fun t256 => (if t256 < 0 then (laws_FnExactNamesIn.j0 k l0 l1 t233 t242 true) else ((laws_eqIntS.f k t242 t233).bind fun t257 => (laws_FnExactNamesIn.j0 k l0 l1 t233 t242 (!t257)))))) else (none)))) else (none)))) else (none)))) = some r := H
  have A12 := Aside0.mk A120
  clear A120
  replace H := Option.bind_eq_some_iff.mp H
  obtain ⟨t242, A130, H⟩ := H
  replace H : ((laws_eqIntS.f k t242 t233).bind fun t245 => (if t245 = true then ((laws_toCmdS.f k l0).bind fun t246 => ((laws_eqCmdS.f k t236 t246).bind fun t249 => (if t249 = true then ((laws_toReplyS.f k l1).bind fun t250 => ((laws_eqReplyS.f k t239 t250).bind fun t253 => (if t253 = true then ((laws_markCmdS.f k t236 1).bind fun bt254 => ((laws_markReplyS.f k t239 bt254.1).bind fun t256 => (if t256 < 0 then (laws_FnExactNamesIn.j0 k l0 l1 t233 t242 true) else ((laws_eqIntS.f k t242 t233).bind fun t257 => (laws_FnExactNamesIn.j0 k l0 l1 t233 t242 (!t257)))))) else (none)))) else (none)))) else (none))) = some r := H
  have A13 := Aside0.mk A130
  clear A130
  replace H := Option.bind_eq_some_iff.mp H
  obtain ⟨t245, A140, H⟩ := H
  replace H : (if t245 = true then ((laws_toCmdS.f k l0).bind fun t246 => ((laws_eqCmdS.f k t236 t246).bind fun t249 => (if t249 = true then ((laws_toReplyS.f k l1).bind fun t250 => ((laws_eqReplyS.f k t239 t250).bind fun t253 => (if t253 = true then ((laws_markCmdS.f k t236 1).bind fun bt254 => ((laws_markReplyS.f k t239 bt254.1).bind fun t256 => (if t256 < 0 then (laws_FnExactNamesIn.j0 k l0 l1 t233 t242 true) else ((laws_eqIntS.f k t242 t233).bind fun t257 => (laws_FnExactNamesIn.j0 k l0 l1 t233 t242 (!t257)))))) else (none)))) else (none)))) else (none)) = some r := H
  have A14 := Aside0.mk A140
  clear A140
  by_cases c15 : t245 = true
  rotate_left
  · replace c15 := Bool.eq_false_iff.mpr c15
    subst c15
    have H1 : (none) = some r := by rw [if_neg (show ¬ (false = true) by decide)] at H; exact H
    clear H
    have H := H1
    clear H1
    exact absurd H (by simp)
  subst c15
  have H1 : ((laws_toCmdS.f k l0).bind fun t246 => ((laws_eqCmdS.f k t236 t246).bind fun t249 => (if t249 = true then ((laws_toReplyS.f k l1).bind fun t250 => ((laws_eqReplyS.f k t239 t250).bind fun t253 => (if t253 = true then ((laws_markCmdS.f k t236 1).bind fun bt254 => ((laws_markReplyS.f k t239 bt254.1).bind fun t256 => (if t256 < 0 then (laws_FnExactNamesIn.j0 k l0 l1 t233 t242 true) else ((laws_eqIntS.f k t242 t233).bind fun t257 => (laws_FnExactNamesIn.j0 k l0 l1 t233 t242 (!t257)))))) else (none)))) else (none)))) = some r := by rw [if_pos rfl] at H; exact H
  clear H
  have H := H1
  clear H1
  replace H := Option.bind_eq_some_iff.mp H
  obtain ⟨t246, A160, H⟩ := H
  replace H : ((laws_eqCmdS.f k t236 t246).bind fun t249 => (if t249 = true then ((laws_toReplyS.f k l1).bind fun t250 => ((laws_eqReplyS.f k t239 t250).bind fun t253 => (if t253 = true then ((laws_markCmdS.f k t236 1).bind fun bt254 => ((laws_markReplyS.f k t239 bt254.1).bind fun t256 => (if t256 < 0 then (laws_FnExactNamesIn.j0 k l0 l1 t233 t242 true) else ((laws_eqIntS.f k t242 t233).bind fun t257 => (laws_FnExactNamesIn.j0 k l0 l1 t233 t242 (!t257)))))) else (none)))) else (none))) = some r := H
  have A16 := Aside0.mk A160
  clear A160
  replace H := Option.bind_eq_some_iff.mp H
  obtain ⟨t249, A170, H⟩ := H
  replace H : (if t249 = true then ((laws_toReplyS.f k l1).bind fun t250 => ((laws_eqReplyS.f k t239 t250).bind fun t253 => (if t253 = true then ((laws_markCmdS.f k t236 1).bind fun bt254 => ((laws_markReplyS.f k t239 bt254.1).bind fun t256 => (if t256 < 0 then (laws_FnExactNamesIn.j0 k l0 l1 t233 t242 true) else ((laws_eqIntS.f k t242 t233).bind fun t257 => (laws_FnExactNamesIn.j0 k l0 l1 t233 t242 (!t257)))))) else (none)))) else (none)) = some r := H
  have A17 := Aside0.mk A170
  clear A170
  by_cases c18 : t249 = true
  rotate_left
  · replace c18 := Bool.eq_false_iff.mpr c18
    subst c18
    have H1 : (none) = some r := by rw [if_neg (show ¬ (false = true) by decide)] at H; exact H
    clear H
    have H := H1
    clear H1
    exact absurd H (by simp)
  subst c18
  have H1 : ((laws_toReplyS.f k l1).bind fun t250 => ((laws_eqReplyS.f k t239 t250).bind fun t253 => (if t253 = true then ((laws_markCmdS.f k t236 1).bind fun bt254 => ((laws_markReplyS.f k t239 bt254.1).bind fun t256 => (if t256 < 0 then (laws_FnExactNamesIn.j0 k l0 l1 t233 t242 true) else ((laws_eqIntS.f k t242 t233).bind fun t257 => (laws_FnExactNamesIn.j0 k l0 l1 t233 t242 (!t257)))))) else (none)))) = some r := by rw [if_pos rfl] at H; exact H
  clear H
  have H := H1
  clear H1
  replace H := Option.bind_eq_some_iff.mp H
  obtain ⟨t250, A190, H⟩ := H
  replace H : ((laws_eqReplyS.f k t239 t250).bind fun t253 => (if t253 = true then ((laws_markCmdS.f k t236 1).bind fun bt254 => ((laws_markReplyS.f k t239 bt254.1).bind fun t256 => (if t256 < 0 then (laws_FnExactNamesIn.j0 k l0 l1 t233 t242 true) else ((laws_eqIntS.f k t242 t233).bind fun t257 => (laws_FnExactNamesIn.j0 k l0 l1 t233 t242 (!t257)))))) else (none))) = some r := H
  have A19 := Aside0.mk A190
  clear A190
  replace H := Option.bind_eq_some_iff.mp H
  obtain ⟨t253, A200, H⟩ := H
  replace H : (if t253 = true then ((laws_markCmdS.f k t236 1).bind fun bt254 => ((laws_markReplyS.f k t239 bt254.1).bind fun t256 => (if t256 < 0 then (laws_FnExactNamesIn.j0 k l0 l1 t233 t242 true) else ((laws_eqIntS.f k t242 t233).bind fun t257 => (laws_FnExactNamesIn.j0 k l0 l1 t233 t242 (!t257)))))) else (none)) = some r := H
  have A20 := Aside0.mk A200
  clear A200
  by_cases c21 : t253 = true
  rotate_left
  · replace c21 := Bool.eq_false_iff.mpr c21
    subst c21
    have H1 : (none) = some r := by rw [if_neg (show ¬ (false = true) by decide)] at H; exact H
    clear H
    have H := H1
    clear H1
    exact absurd H (by simp)
  subst c21
  have H1 : ((laws_markCmdS.f k t236 1).bind fun bt254 => ((laws_markReplyS.f k t239 bt254.1).bind fun t256 => (if t256 < 0 then (laws_FnExactNamesIn.j0 k l0 l1 t233 t242 true) else ((laws_eqIntS.f k t242 t233).bind fun t257 => (laws_FnExactNamesIn.j0 k l0 l1 t233 t242 (!t257)))))) = some r := by rw [if_pos rfl] at H; exact H
  clear H
  have H := H1
  clear H1
  replace H := Option.bind_eq_some_iff.mp H
  obtain ⟨⟨t254, t255⟩, A220, H⟩ := H
  replace H : ((laws_markReplyS.f k t239 t254).bind fun t256 => (if t256 < 0 then (laws_FnExactNamesIn.j0 k l0 l1 t233 t242 true) else ((laws_eqIntS.f k t242 t233).bind fun t257 => (laws_FnExactNamesIn.j0 k l0 l1 t233 t242 (!t257))))) = some r := H
  have A22 := Aside0.mk A220
  clear A220
  replace H := Option.bind_eq_some_iff.mp H
  obtain ⟨t256, A230, H⟩ := H
  replace H : (if t256 < 0 then (laws_FnExactNamesIn.j0 k l0 l1 t233 t242 true) else ((laws_eqIntS.f k t242 t233).bind fun t257 => (laws_FnExactNamesIn.j0 k l0 l1 t233 t242 (!t257)))) = some r := H
  have A23 := Aside0.mk A230
  clear A230
  have HC24 := Aside0.mk H
  clear H
  go_enter Try.func6, Try.ntmps6
  go_upto_region 21 with (first | ((with_reducible refine gate_callee (f := 22) rfl ?_); refine goesL_ (some 16) rfl rfl Try.func22 (by kernel_rfl) rfl #[.slice A0 l0.length c0, .int .i64 1048576] rfl (by (try simp only [List.map_toArray, List.map_cons, List.map_nil]); first | done | rfl | (simp only [List.length_drop, List.length_take]; rfl)) ?_; (with_reducible refine (laws_szCmdS.calls _ _ l0 1048576 t225 _ ?side1 ?side2 A3.out).mono ?_); (case side1 => repeat (first | exact HR0.out | (with_reducible refine Kd.C_alloc ?_ _) | (with_reducible refine Kd.C_drewN ?_ _) | (with_reducible refine Kd.C_drew ?_))); (case side2 => exact HC0.out); rintro e w' ⟨rfl, ⟨nd, rfl⟩⟩; refine ⟨_, rfl, ?_⟩) | ((with_reducible refine gate_callee (f := 23) rfl ?_); refine goesL_ (some 21) rfl rfl Try.func23 (by kernel_rfl) rfl #[.slice A1 l1.length c1, .int .i64 t225] rfl (by (try simp only [List.map_toArray, List.map_cons, List.map_nil]); first | done | rfl | (simp only [List.length_drop, List.length_take]; rfl)) ?_; (with_reducible refine (laws_szReplyS.calls k _ _ l1 t225 t226 _ ?side1 ?side2 A5.out).mono ?_); (case side1 => repeat (first | exact HR1.out | (with_reducible refine Kd.C_alloc ?_ _) | (with_reducible refine Kd.C_drewN ?_ _) | (with_reducible refine Kd.C_drew ?_))); (case side2 => exact HC1.out); rintro e w25 ⟨rfl, hb⟩; refine ⟨_, rfl, ?_⟩; have n0_ := Aside0.mk (below_step (by repeat (first | (with_reducible first | exact HB.out | apply below_alloc | apply pw_below_drewN | apply below_drew1) | exact HB.out)) hb); clear HB; have HB := n0_; clear n0_; (try clear hb); (try clear hb2); (try clear hk); (try clear hi)) | ((with_reducible refine gate_callee (f := 25) rfl ?_); refine goesL_ (some 25) rfl rfl Try.func25 (by kernel_rfl) rfl #[.slice A0 l0.length c0] rfl (by (try simp only [List.map_toArray, List.map_cons, List.map_nil]); first | done | rfl | (simp only [List.length_drop, List.length_take]; rfl)) ?_; (with_reducible refine (laws_toCmdS.calls k _ _ l0 t227 _ ?side1 ?side2 A8.out).mono ?_); (case side1 => repeat (first | exact (Kd.C_below HR0.out HB.out) | (with_reducible refine Kd.C_alloc ?_ _) | (with_reducible refine Kd.C_drewN ?_ _) | (with_reducible refine Kd.C_drew ?_))); (case side2 => exact HC0.out); rintro e w26 ⟨v228, rfl, ho0, hb⟩; refine ⟨_, rfl, ?_⟩; have n0_ := Aside0.mk (Kd.R_lower ho0 (below_size (by repeat (first | (with_reducible first | exact HB.out | apply below_alloc | apply pw_below_drewN | apply below_drew1) | exact HB.out)))); have n1_ := Aside0.mk (below_step (by repeat (first | (with_reducible first | exact HB.out | apply below_alloc | apply pw_below_drewN | apply below_drew1) | exact HB.out)) hb); clear HB; have HO229 := n0_; have HB := n1_; clear n0_ n1_; (try clear hb); (try clear hb2); (try clear hk); (try clear hi); (try clear ho0)) | ((with_reducible refine gate_callee (f := 26) rfl ?_); refine goesL_ (some 27) rfl rfl Try.func26 (by kernel_rfl) rfl #[.slice A1 l1.length c1] rfl (by (try simp only [List.map_toArray, List.map_cons, List.map_nil]); first | done | rfl | (simp only [List.length_drop, List.length_take]; rfl)) ?_; (with_reducible refine (laws_toReplyS.calls k _ _ l1 t230 _ ?side1 ?side2 A9.out).mono ?_); (case side1 => repeat (first | exact (Kd.C_below HR1.out HB.out) | (with_reducible refine Kd.C_alloc ?_ _) | (with_reducible refine Kd.C_drewN ?_ _) | (with_reducible refine Kd.C_drew ?_))); (case side2 => exact HC1.out); rintro e w27 ⟨v231, rfl, ho0, hb⟩; refine ⟨_, rfl, ?_⟩; have n0_ := Aside0.mk (Kd.R_below (by (with_reducible repeat (first | apply Kd.R_alloc | apply Kd.R_drewN | apply Kd.R_drew)); exact HO229.out) hb); have n1_ := Aside0.mk (Kd.S_lower ho0 (below_size (by repeat (first | (with_reducible first | exact HB.out | apply below_alloc | apply pw_below_drewN | apply below_drew1) | exact HB.out)))); have n2_ := Aside0.mk (below_step (by repeat (first | (with_reducible first | exact HB.out | apply below_alloc | apply pw_below_drewN | apply below_drew1) | exact HB.out)) hb); clear HO229; clear HB; have HO229 := n0_; have HO232 := n1_; have HB := n2_; clear n0_ n1_ n2_; (try clear hb); (try clear hb2); (try clear hk); (try clear hi); (try clear ho0); obtain ⟨Ao28, co28, eo28⟩ := Kd.R_slice HO229.out; subst eo28; obtain ⟨Ao29, co29, eo29⟩ := Kd.S_slice HO232.out; subst eo29) | ((with_reducible refine gate_callee (f := 24) rfl ?_); refine goesL_ (some 28) rfl rfl Try.func24 (by kernel_rfl) rfl #[.slice Ao28 t227.length co28, .slice Ao29 t230.length co29] rfl (by (try simp only [List.map_toArray, List.map_cons, List.map_nil]); first | done | rfl | (simp only [List.length_drop, List.length_take]; rfl)) ?_; (with_reducible refine (spec_NamesIn.calls k _ _ t227 _ _ t230 t233 _ ?side1 ?side2 ?side3 ?side4 A10.out).mono ?_); (case side1 => repeat (first | exact (Kd.R_reads' HO229.out).2.2 | (with_reducible refine Kd.C_alloc ?_ _) | (with_reducible refine Kd.C_drewN ?_ _) | (with_reducible refine Kd.C_drew ?_))); (case side2 => exact (Kd.R_reads' HO229.out).2.1); (case side3 => repeat (first | exact (Kd.S_reads' HO232.out).2.2 | (with_reducible refine Kd.C_alloc ?_ _) | (with_reducible refine Kd.C_drewN ?_ _) | (with_reducible refine Kd.C_drew ?_))); (case side4 => exact (Kd.S_reads' HO232.out).2.1); rintro e w30 ⟨v234, rfl, ho0, hb⟩; refine ⟨_, rfl, ?_⟩; have n0_ := Aside0.mk (Kd.R_below (by (with_reducible repeat (first | apply Kd.R_alloc | apply Kd.R_drewN | apply Kd.R_drew)); exact HO229.out) hb); have n1_ := Aside0.mk (Kd.S_below (by (with_reducible repeat (first | apply Kd.S_alloc | apply Kd.S_drewN | apply Kd.S_drew)); exact HO232.out) hb); have n2_ := Aside0.mk (Kd.R_lower ho0 (below_size (by repeat (first | (with_reducible first | exact HB.out | apply below_alloc | apply pw_below_drewN | apply below_drew1) | exact HB.out)))); have n3_ := Aside0.mk (below_step (by repeat (first | (with_reducible first | exact HB.out | apply below_alloc | apply pw_below_drewN | apply below_drew1) | exact HB.out)) hb); clear HO229; clear HO232; clear HB; have HO229 := n0_; have HO232 := n1_; have HO235 := n2_; have HB := n3_; clear n0_ n1_ n2_ n3_; (try clear hb); (try clear hb2); (try clear hk); (try clear hi); (try clear ho0)) | ((with_reducible refine gate_callee (f := 25) rfl ?_); refine goesL_ (some 30) rfl rfl Try.func25 (by kernel_rfl) rfl #[.slice A0 l0.length c0] rfl (by (try simp only [List.map_toArray, List.map_cons, List.map_nil]); first | done | rfl | (simp only [List.length_drop, List.length_take]; rfl)) ?_; (with_reducible refine (laws_toCmdS.calls k _ _ l0 t236 _ ?side1 ?side2 A11.out).mono ?_); (case side1 => repeat (first | exact (Kd.C_below HR0.out HB.out) | (with_reducible refine Kd.C_alloc ?_ _) | (with_reducible refine Kd.C_drewN ?_ _) | (with_reducible refine Kd.C_drew ?_))); (case side2 => exact HC0.out); rintro e w31 ⟨v237, rfl, ho0, hb⟩; refine ⟨_, rfl, ?_⟩; have n0_ := Aside0.mk (Kd.R_elder' (by (with_reducible repeat (first | apply Kd.R_alloc | apply Kd.R_drewN | apply Kd.R_drew)); exact HO229.out) (Kd.R_base ho0) hb); have n1_ := Aside0.mk (Kd.S_below (by (with_reducible repeat (first | apply Kd.S_alloc | apply Kd.S_drewN | apply Kd.S_drew)); exact HO232.out) hb); have n2_ := Aside0.mk (Kd.R_below (by (with_reducible repeat (first | apply Kd.R_alloc | apply Kd.R_drewN | apply Kd.R_drew)); exact HO235.out) hb); have n3_ := Aside0.mk (Kd.R_lower (Kd.R_new' ho0 (Kd.R_lt (by (with_reducible repeat (first | apply Kd.R_alloc | apply Kd.R_drewN | apply Kd.R_drew)); exact HO229.out))) (below_size (by repeat (first | (with_reducible first | exact HB.out | apply below_alloc | apply pw_below_drewN | apply below_drew1) | exact HB.out)))); have n4_ := Aside0.mk (below_step (by repeat (first | (with_reducible first | exact HB.out | apply below_alloc | apply pw_below_drewN | apply below_drew1) | exact HB.out)) hb); clear HO229; clear HO232; clear HO235; clear HB; have HO229 := n0_; have HO232 := n1_; have HO235 := n2_; have HO238 := n3_; have HB := n4_; clear n0_ n1_ n2_ n3_ n4_; (try clear hb); (try clear hb2); (try clear hk); (try clear hi); (try clear ho0)) | ((with_reducible refine gate_callee (f := 26) rfl ?_); refine goesL_ (some 32) rfl rfl Try.func26 (by kernel_rfl) rfl #[.slice A1 l1.length c1] rfl (by (try simp only [List.map_toArray, List.map_cons, List.map_nil]); first | done | rfl | (simp only [List.length_drop, List.length_take]; rfl)) ?_; (with_reducible refine (laws_toReplyS.calls k _ _ l1 t239 _ ?side1 ?side2 A12.out).mono ?_); (case side1 => repeat (first | exact (Kd.C_below HR1.out HB.out) | (with_reducible refine Kd.C_alloc ?_ _) | (with_reducible refine Kd.C_drewN ?_ _) | (with_reducible refine Kd.C_drew ?_))); (case side2 => exact HC1.out); rintro e w32 ⟨v240, rfl, ho0, hb⟩; refine ⟨_, rfl, ?_⟩; have n0_ := Aside0.mk (Kd.R_below (by (with_reducible repeat (first | apply Kd.R_alloc | apply Kd.R_drewN | apply Kd.R_drew)); exact HO229.out) hb); have n1_ := Aside0.mk (Kd.S_elder' (by (with_reducible repeat (first | apply Kd.S_alloc | apply Kd.S_drewN | apply Kd.S_drew)); exact HO232.out) (Kd.S_base ho0) hb); have n2_ := Aside0.mk (Kd.R_below (by (with_reducible repeat (first | apply Kd.R_alloc | apply Kd.R_drewN | apply Kd.R_drew)); exact HO235.out) hb); have n3_ := Aside0.mk (Kd.R_below (by (with_reducible repeat (first | apply Kd.R_alloc | apply Kd.R_drewN | apply Kd.R_drew)); exact HO238.out) hb); have n4_ := Aside0.mk (Kd.S_lower (Kd.S_new' ho0 (Kd.S_lt (by (with_reducible repeat (first | apply Kd.S_alloc | apply Kd.S_drewN | apply Kd.S_drew)); exact HO232.out))) (below_size (by repeat (first | (with_reducible first | exact HB.out | apply below_alloc | apply pw_below_drewN | apply below_drew1) | exact HB.out)))); have n5_ := Aside0.mk (below_step (by repeat (first | (with_reducible first | exact HB.out | apply below_alloc | apply pw_below_drewN | apply below_drew1) | exact HB.out)) hb); clear HO229; clear HO232; clear HO235; clear HO238; clear HB; have HO229 := n0_; have HO232 := n1_; have HO235 := n2_; have HO238 := n3_; have HO241 := n4_; have HB := n5_; clear n0_ n1_ n2_ n3_ n4_ n5_; (try clear hb); (try clear hb2); (try clear hk); (try clear hi); (try clear ho0); obtain ⟨Ao33, co33, eo33⟩ := Kd.R_slice HO238.out; subst eo33; obtain ⟨Ao34, co34, eo34⟩ := Kd.S_slice HO241.out; subst eo34) | ((with_reducible refine gate_callee (f := 27) rfl ?_); refine goesL_ (some 35) rfl rfl Try.func27 (by kernel_rfl) rfl #[.slice Ao33 t236.length co33, .slice Ao34 t239.length co34] rfl (by (try simp only [List.map_toArray, List.map_cons, List.map_nil]); first | done | rfl | (simp only [List.length_drop, List.length_take]; rfl)) ?_; (with_reducible refine (impl_NamesIn.calls k _ _ t236 _ _ t239 t242 _ ?side1 ?side2 ?side3 ?side4 A13.out).mono ?_); (case side1 => repeat (first | exact (Kd.R_reads' HO238.out).2.2 | (with_reducible refine Kd.C_alloc ?_ _) | (with_reducible refine Kd.C_drewN ?_ _) | (with_reducible refine Kd.C_drew ?_))); (case side2 => exact (Kd.R_reads' HO238.out).2.1); (case side3 => repeat (first | exact (Kd.S_reads' HO241.out).2.2 | (with_reducible refine Kd.C_alloc ?_ _) | (with_reducible refine Kd.C_drewN ?_ _) | (with_reducible refine Kd.C_drew ?_))); (case side4 => exact (Kd.S_reads' HO241.out).2.1); rintro e w35 ⟨v243, rfl, ho0, hb⟩; refine ⟨_, rfl, ?_⟩; have n0_ := Aside0.mk (Kd.R_below (by (with_reducible repeat (first | apply Kd.R_alloc | apply Kd.R_drewN | apply Kd.R_drew)); exact HO229.out) hb); have n1_ := Aside0.mk (Kd.S_below (by (with_reducible repeat (first | apply Kd.S_alloc | apply Kd.S_drewN | apply Kd.S_drew)); exact HO232.out) hb); have n2_ := Aside0.mk (Kd.R_elder' (by (with_reducible repeat (first | apply Kd.R_alloc | apply Kd.R_drewN | apply Kd.R_drew)); exact HO235.out) (Kd.R_base ho0) hb); have n3_ := Aside0.mk (Kd.R_below (by (with_reducible repeat (first | apply Kd.R_alloc | apply Kd.R_drewN | apply Kd.R_drew)); exact HO238.out) hb); have n4_ := Aside0.mk (Kd.S_below (by (with_reducible repeat (first | apply Kd.S_alloc | apply Kd.S_drewN | apply Kd.S_drew)); exact HO241.out) hb); have n5_ := Aside0.mk (Kd.R_lower (Kd.R_new' ho0 (Kd.R_lt (by (with_reducible repeat (first | apply Kd.R_alloc | apply Kd.R_drewN | apply Kd.R_drew)); exact HO235.out))) (below_size (by repeat (first | (with_reducible first | exact HB.out | apply below_alloc | apply pw_below_drewN | apply below_drew1) | exact HB.out)))); have n6_ := Aside0.mk (below_step (by repeat (first | (with_reducible first | exact HB.out | apply below_alloc | apply pw_below_drewN | apply below_drew1) | exact HB.out)) hb); clear HO229; clear HO232; clear HO235; clear HO238; clear HO241; clear HB; have HO229 := n0_; have HO232 := n1_; have HO235 := n2_; have HO238 := n3_; have HO241 := n4_; have HO244 := n5_; have HB := n6_; clear n0_ n1_ n2_ n3_ n4_ n5_ n6_; (try clear hb); (try clear hb2); (try clear hk); (try clear hi); (try clear ho0); obtain ⟨Ao36, co36, eo36⟩ := Kd.R_slice HO244.out; subst eo36; obtain ⟨Ao37, co37, eo37⟩ := Kd.R_slice HO235.out; subst eo37) | ((with_reducible refine gate_callee (f := 28) rfl ?_); refine goesL_ (some 38) rfl rfl Try.func28 (by kernel_rfl) rfl #[.slice Ao36 t242.length co36, .slice Ao37 t233.length co37] rfl (by (try simp only [List.map_toArray, List.map_cons, List.map_nil]); first | done | rfl | (simp only [List.length_drop, List.length_take]; rfl)) ?_; (with_reducible refine (laws_eqIntS.calls k _ _ t242 _ _ t233 true _ ?side1 ?side2 ?side3 ?side4 A14.out).mono ?_); (case side1 => repeat (first | exact (Kd.R_reads' HO244.out).2.2 | (with_reducible refine Kd.C_alloc ?_ _) | (with_reducible refine Kd.C_drewN ?_ _) | (with_reducible refine Kd.C_drew ?_))); (case side2 => exact (Kd.R_reads' HO244.out).2.1); (case side3 => repeat (first | exact (Kd.R_reads' HO235.out).2.2 | (with_reducible refine Kd.C_alloc ?_ _) | (with_reducible refine Kd.C_drewN ?_ _) | (with_reducible refine Kd.C_drew ?_))); (case side4 => exact (Kd.R_reads' HO235.out).2.1); rintro e w' ⟨rfl, ⟨nd, rfl⟩⟩; refine ⟨_, rfl, ?_⟩) | ((with_reducible refine gate_callee (f := 25) rfl ?_); refine goesL_ (some 42) rfl rfl Try.func25 (by kernel_rfl) rfl #[.slice A0 l0.length c0] rfl (by (try simp only [List.map_toArray, List.map_cons, List.map_nil]); first | done | rfl | (simp only [List.length_drop, List.length_take]; rfl)) ?_; (with_reducible refine (laws_toCmdS.calls k _ _ l0 t246 _ ?side1 ?side2 A16.out).mono ?_); (case side1 => repeat (first | exact (Kd.C_below HR0.out (by repeat (first | (with_reducible first | exact HB.out | apply below_alloc | apply pw_below_drewN | apply below_drew1) | exact HB.out))) | (with_reducible refine Kd.C_alloc ?_ _) | (with_reducible refine Kd.C_drewN ?_ _) | (with_reducible refine Kd.C_drew ?_))); (case side2 => exact HC0.out); rintro e w38 ⟨v247, rfl, ho0, hb⟩; refine ⟨_, rfl, ?_⟩; have n0_ := Aside0.mk (Kd.R_elder' (by (with_reducible repeat (first | apply Kd.R_alloc | apply Kd.R_drewN | apply Kd.R_drew)); exact HO229.out) (Kd.R_base ho0) hb); have n1_ := Aside0.mk (Kd.S_below (by (with_reducible repeat (first | apply Kd.S_alloc | apply Kd.S_drewN | apply Kd.S_drew)); exact HO232.out) hb); have n2_ := Aside0.mk (Kd.R_below (by (with_reducible repeat (first | apply Kd.R_alloc | apply Kd.R_drewN | apply Kd.R_drew)); exact HO235.out) hb); have n3_ := Aside0.mk (Kd.R_elder' (by (with_reducible repeat (first | apply Kd.R_alloc | apply Kd.R_drewN | apply Kd.R_drew)); exact HO238.out) (Kd.R_base ho0) hb); have n4_ := Aside0.mk (Kd.S_below (by (with_reducible repeat (first | apply Kd.S_alloc | apply Kd.S_drewN | apply Kd.S_drew)); exact HO241.out) hb); have n5_ := Aside0.mk (Kd.R_below (by (with_reducible repeat (first | apply Kd.R_alloc | apply Kd.R_drewN | apply Kd.R_drew)); exact HO244.out) hb); have n6_ := Aside0.mk (Kd.R_lower (Kd.R_new' (Kd.R_new' ho0 (Kd.R_lt (by (with_reducible repeat (first | apply Kd.R_alloc | apply Kd.R_drewN | apply Kd.R_drew)); exact HO229.out))) (Kd.R_lt (by (with_reducible repeat (first | apply Kd.R_alloc | apply Kd.R_drewN | apply Kd.R_drew)); exact HO238.out))) (below_size (by repeat (first | (with_reducible first | exact HB.out | apply below_alloc | apply pw_below_drewN | apply below_drew1) | exact HB.out)))); have n7_ := Aside0.mk (below_step (by repeat (first | (with_reducible first | exact HB.out | apply below_alloc | apply pw_below_drewN | apply below_drew1) | exact HB.out)) hb); clear HO229; clear HO232; clear HO235; clear HO238; clear HO241; clear HO244; clear HB; have HO229 := n0_; have HO232 := n1_; have HO235 := n2_; have HO238 := n3_; have HO241 := n4_; have HO244 := n5_; have HO248 := n6_; have HB := n7_; clear n0_ n1_ n2_ n3_ n4_ n5_ n6_ n7_; (try clear hb); (try clear hb2); (try clear hk); (try clear hi); (try clear ho0); obtain ⟨Ao39, co39, eo39⟩ := Kd.R_slice HO248.out; subst eo39) | ((with_reducible refine gate_callee (f := 29) rfl ?_); refine goesL_ (some 43) rfl rfl Try.func29 (by kernel_rfl) rfl #[.slice Ao33 t236.length co33, .slice Ao39 t246.length co39] rfl (by (try simp only [List.map_toArray, List.map_cons, List.map_nil]); first | done | rfl | (simp only [List.length_drop, List.length_take]; rfl)) ?_; (with_reducible refine (laws_eqCmdS.calls k _ _ t236 _ _ t246 true _ ?side1 ?side2 ?side3 ?side4 A17.out).mono ?_); (case side1 => repeat (first | exact (Kd.R_reads' HO238.out).2.2 | (with_reducible refine Kd.C_alloc ?_ _) | (with_reducible refine Kd.C_drewN ?_ _) | (with_reducible refine Kd.C_drew ?_))); (case side2 => exact (Kd.R_reads' HO238.out).2.1); (case side3 => repeat (first | exact (Kd.R_reads' HO248.out).2.2 | (with_reducible refine Kd.C_alloc ?_ _) | (with_reducible refine Kd.C_drewN ?_ _) | (with_reducible refine Kd.C_drew ?_))); (case side4 => exact (Kd.R_reads' HO248.out).2.1); rintro e w40 ⟨rfl, hb⟩; refine ⟨_, rfl, ?_⟩; have n0_ := Aside0.mk (Kd.R_below (by (with_reducible repeat (first | apply Kd.R_alloc | apply Kd.R_drewN | apply Kd.R_drew)); exact HO229.out) hb); have n1_ := Aside0.mk (Kd.S_below (by (with_reducible repeat (first | apply Kd.S_alloc | apply Kd.S_drewN | apply Kd.S_drew)); exact HO232.out) hb); have n2_ := Aside0.mk (Kd.R_below (by (with_reducible repeat (first | apply Kd.R_alloc | apply Kd.R_drewN | apply Kd.R_drew)); exact HO235.out) hb); have n3_ := Aside0.mk (Kd.R_below (by (with_reducible repeat (first | apply Kd.R_alloc | apply Kd.R_drewN | apply Kd.R_drew)); exact HO238.out) hb); have n4_ := Aside0.mk (Kd.S_below (by (with_reducible repeat (first | apply Kd.S_alloc | apply Kd.S_drewN | apply Kd.S_drew)); exact HO241.out) hb); have n5_ := Aside0.mk (Kd.R_below (by (with_reducible repeat (first | apply Kd.R_alloc | apply Kd.R_drewN | apply Kd.R_drew)); exact HO244.out) hb); have n6_ := Aside0.mk (Kd.R_below (by (with_reducible repeat (first | apply Kd.R_alloc | apply Kd.R_drewN | apply Kd.R_drew)); exact HO248.out) hb); have n7_ := Aside0.mk (below_step (by repeat (first | (with_reducible first | exact HB.out | apply below_alloc | apply pw_below_drewN | apply below_drew1) | exact HB.out)) hb); clear HO229; clear HO232; clear HO235; clear HO238; clear HO241; clear HO244; clear HO248; clear HB; have HO229 := n0_; have HO232 := n1_; have HO235 := n2_; have HO238 := n3_; have HO241 := n4_; have HO244 := n5_; have HO248 := n6_; have HB := n7_; clear n0_ n1_ n2_ n3_ n4_ n5_ n6_ n7_; (try clear hb); (try clear hb2); (try clear hk); (try clear hi)) | ((with_reducible refine gate_callee (f := 26) rfl ?_); refine goesL_ (some 47) rfl rfl Try.func26 (by kernel_rfl) rfl #[.slice A1 l1.length c1] rfl (by (try simp only [List.map_toArray, List.map_cons, List.map_nil]); first | done | rfl | (simp only [List.length_drop, List.length_take]; rfl)) ?_; (with_reducible refine (laws_toReplyS.calls k _ _ l1 t250 _ ?side1 ?side2 A19.out).mono ?_); (case side1 => repeat (first | exact (Kd.C_below HR1.out HB.out) | (with_reducible refine Kd.C_alloc ?_ _) | (with_reducible refine Kd.C_drewN ?_ _) | (with_reducible refine Kd.C_drew ?_))); (case side2 => exact HC1.out); rintro e w41 ⟨v251, rfl, ho0, hb⟩; refine ⟨_, rfl, ?_⟩; have n0_ := Aside0.mk (Kd.R_below (by (with_reducible repeat (first | apply Kd.R_alloc | apply Kd.R_drewN | apply Kd.R_drew)); exact HO229.out) hb); have n1_ := Aside0.mk (Kd.S_elder' (by (with_reducible repeat (first | apply Kd.S_alloc | apply Kd.S_drewN | apply Kd.S_drew)); exact HO232.out) (Kd.S_base ho0) hb); have n2_ := Aside0.mk (Kd.R_below (by (with_reducible repeat (first | apply Kd.R_alloc | apply Kd.R_drewN | apply Kd.R_drew)); exact HO235.out) hb); have n3_ := Aside0.mk (Kd.R_below (by (with_reducible repeat (first | apply Kd.R_alloc | apply Kd.R_drewN | apply Kd.R_drew)); exact HO238.out) hb); have n4_ := Aside0.mk (Kd.S_elder' (by (with_reducible repeat (first | apply Kd.S_alloc | apply Kd.S_drewN | apply Kd.S_drew)); exact HO241.out) (Kd.S_base ho0) hb); have n5_ := Aside0.mk (Kd.R_below (by (with_reducible repeat (first | apply Kd.R_alloc | apply Kd.R_drewN | apply Kd.R_drew)); exact HO244.out) hb); have n6_ := Aside0.mk (Kd.R_below (by (with_reducible repeat (first | apply Kd.R_alloc | apply Kd.R_drewN | apply Kd.R_drew)); exact HO248.out) hb); have n7_ := Aside0.mk (Kd.S_lower (Kd.S_new' (Kd.S_new' ho0 (Kd.S_lt (by (with_reducible repeat (first | apply Kd.S_alloc | apply Kd.S_drewN | apply Kd.S_drew)); exact HO232.out))) (Kd.S_lt (by (with_reducible repeat (first | apply Kd.S_alloc | apply Kd.S_drewN | apply Kd.S_drew)); exact HO241.out))) (below_size (by repeat (first | (with_reducible first | exact HB.out | apply below_alloc | apply pw_below_drewN | apply below_drew1) | exact HB.out)))); have n8_ := Aside0.mk (below_step (by repeat (first | (with_reducible first | exact HB.out | apply below_alloc | apply pw_below_drewN | apply below_drew1) | exact HB.out)) hb); clear HO229; clear HO232; clear HO235; clear HO238; clear HO241; clear HO244; clear HO248; clear HB; have HO229 := n0_; have HO232 := n1_; have HO235 := n2_; have HO238 := n3_; have HO241 := n4_; have HO244 := n5_; have HO248 := n6_; have HO252 := n7_; have HB := n8_; clear n0_ n1_ n2_ n3_ n4_ n5_ n6_ n7_ n8_; (try clear hb); (try clear hb2); (try clear hk); (try clear hi); (try clear ho0); obtain ⟨Ao42, co42, eo42⟩ := Kd.S_slice HO252.out; subst eo42) | ((with_reducible refine gate_callee (f := 30) rfl ?_); refine goesL_ (some 48) rfl rfl Try.func30 (by kernel_rfl) rfl #[.slice Ao34 t239.length co34, .slice Ao42 t250.length co42] rfl (by (try simp only [List.map_toArray, List.map_cons, List.map_nil]); first | done | rfl | (simp only [List.length_drop, List.length_take]; rfl)) ?_; (with_reducible refine (laws_eqReplyS.calls k _ _ t239 _ _ t250 true _ ?side1 ?side2 ?side3 ?side4 A20.out).mono ?_); (case side1 => repeat (first | exact (Kd.S_reads' HO241.out).2.2 | (with_reducible refine Kd.C_alloc ?_ _) | (with_reducible refine Kd.C_drewN ?_ _) | (with_reducible refine Kd.C_drew ?_))); (case side2 => exact (Kd.S_reads' HO241.out).2.1); (case side3 => repeat (first | exact (Kd.S_reads' HO252.out).2.2 | (with_reducible refine Kd.C_alloc ?_ _) | (with_reducible refine Kd.C_drewN ?_ _) | (with_reducible refine Kd.C_drew ?_))); (case side4 => exact (Kd.S_reads' HO252.out).2.1); rintro e w43 ⟨rfl, hb⟩; refine ⟨_, rfl, ?_⟩; have n0_ := Aside0.mk (Kd.R_below (by (with_reducible repeat (first | apply Kd.R_alloc | apply Kd.R_drewN | apply Kd.R_drew)); exact HO229.out) hb); have n1_ := Aside0.mk (Kd.S_below (by (with_reducible repeat (first | apply Kd.S_alloc | apply Kd.S_drewN | apply Kd.S_drew)); exact HO232.out) hb); have n2_ := Aside0.mk (Kd.R_below (by (with_reducible repeat (first | apply Kd.R_alloc | apply Kd.R_drewN | apply Kd.R_drew)); exact HO235.out) hb); have n3_ := Aside0.mk (Kd.R_below (by (with_reducible repeat (first | apply Kd.R_alloc | apply Kd.R_drewN | apply Kd.R_drew)); exact HO238.out) hb); have n4_ := Aside0.mk (Kd.S_below (by (with_reducible repeat (first | apply Kd.S_alloc | apply Kd.S_drewN | apply Kd.S_drew)); exact HO241.out) hb); have n5_ := Aside0.mk (Kd.R_below (by (with_reducible repeat (first | apply Kd.R_alloc | apply Kd.R_drewN | apply Kd.R_drew)); exact HO244.out) hb); have n6_ := Aside0.mk (Kd.R_below (by (with_reducible repeat (first | apply Kd.R_alloc | apply Kd.R_drewN | apply Kd.R_drew)); exact HO248.out) hb); have n7_ := Aside0.mk (Kd.S_below (by (with_reducible repeat (first | apply Kd.S_alloc | apply Kd.S_drewN | apply Kd.S_drew)); exact HO252.out) hb); have n8_ := Aside0.mk (below_step (by repeat (first | (with_reducible first | exact HB.out | apply below_alloc | apply pw_below_drewN | apply below_drew1) | exact HB.out)) hb); clear HO229; clear HO232; clear HO235; clear HO238; clear HO241; clear HO244; clear HO248; clear HO252; clear HB; have HO229 := n0_; have HO232 := n1_; have HO235 := n2_; have HO238 := n3_; have HO241 := n4_; have HO244 := n5_; have HO248 := n6_; have HO252 := n7_; have HB := n8_; clear n0_ n1_ n2_ n3_ n4_ n5_ n6_ n7_ n8_; (try clear hb); (try clear hb2); (try clear hk); (try clear hi)) | ((with_reducible refine gate_callee (f := 31) rfl ?_); refine goesL_ (some 52) rfl rfl Try.func31 (by kernel_rfl) rfl #[.slice Ao33 t236.length co33, .int .i64 1] rfl (by (try simp only [List.map_toArray, List.map_cons, List.map_nil]); first | done | rfl | (simp only [List.length_drop, List.length_take]; rfl)) ?_; (with_reducible refine (laws_markCmdS.calls k (fun k_ => some k_ = (.slice Ao33 t236.length co33 : Value).ownBlock) (.slice Ao33 t236.length co33) t236 1 t254 t255 w _ ?side1 ?side2 A22.out).mono ?_); (case side1 => repeat (first | (with_reducible first | exact HB.out | apply below_alloc | apply pw_below_drewN | apply below_drew1) | exact HB.out)); (case side2 => exact Kd.R_tight rfl HO238.out); rintro e w44 ⟨rfl, hy0, hb, hkp⟩; refine ⟨_, rfl, ?_⟩; have n0_ := Aside0.mk (Kd.R_mono (ok' := fun k_ => some k_ ≠ (.slice Ao33 t236.length co33 : Value).ownBlock ∧ some k_ ≠ (.slice Ao39 t246.length co39 : Value).ownBlock) (Kd.R_keptB (HO229.out) hkp (fun k_ hk_ hs_ => (hk_.1.2) hs_)) (fun k_ hk_ => ⟨hk_.1.1.2, hk_.1.2⟩)); have n1_ := Aside0.mk (Kd.S_mono (ok' := fun k_ => some k_ ≠ (.slice Ao34 t239.length co34 : Value).ownBlock ∧ some k_ ≠ (.slice Ao42 t250.length co42 : Value).ownBlock) (Kd.S_keptB ((Kd.S_apart' HO232.out (Kd.R_typed HO238.out) (by decide))) hkp (fun k_ hk_ hs_ => (hk_.2) hs_)) (fun k_ hk_ => ⟨hk_.1.1.1.2, hk_.1.1.2⟩)); have n2_ := Aside0.mk (Kd.R_mono (ok' := fun k_ => some k_ ≠ (.slice Ao36 t242.length co36 : Value).ownBlock) (Kd.R_keptB ((Kd.R_apart' HO235.out (Kd.R_typed HO238.out) (by decide))) hkp (fun k_ hk_ hs_ => (hk_.2) hs_)) (fun k_ hk_ => hk_.1.1.2)); have n3_ := Aside0.mk (Kd.R_reok rfl hy0 (fun k_ e_ => HO238.out.1 k_ e_)); have n4_ := Aside0.mk (Kd.S_mono (ok' := fun k_ => some k_ ≠ (.slice Ao29 t230.length co29 : Value).ownBlock ∧ some k_ ≠ (.slice Ao42 t250.length co42 : Value).ownBlock) (Kd.S_keptB ((Kd.S_apart' HO241.out (Kd.R_typed HO238.out) (by decide))) hkp (fun k_ hk_ hs_ => (hk_.2) hs_)) (fun k_ hk_ => ⟨hk_.1.1.1.2, hk_.1.1.2⟩)); have n5_ := Aside0.mk (Kd.R_mono (ok' := fun k_ => some k_ ≠ (.slice Ao37 t233.length co37 : Value).ownBlock) (Kd.R_keptB ((Kd.R_apart' HO244.out (Kd.R_typed HO238.out) (by decide))) hkp (fun k_ hk_ hs_ => (hk_.2) hs_)) (fun k_ hk_ => hk_.1.1.2)); have n6_ := Aside0.mk (Kd.R_mono (ok' := fun k_ => some k_ ≠ (.slice Ao28 t227.length co28 : Value).ownBlock ∧ some k_ ≠ (.slice Ao33 t236.length co33 : Value).ownBlock) (Kd.R_keptB (HO248.out) hkp (fun k_ hk_ hs_ => (hk_.2) hs_)) (fun k_ hk_ => ⟨hk_.1.1.2, hk_.1.2⟩)); have n7_ := Aside0.mk (Kd.S_mono (ok' := fun k_ => some k_ ≠ (.slice Ao29 t230.length co29 : Value).ownBlock ∧ some k_ ≠ (.slice Ao34 t239.length co34 : Value).ownBlock) (Kd.S_keptB ((Kd.S_apart' HO252.out (Kd.R_typed HO238.out) (by decide))) hkp (fun k_ hk_ hs_ => (hk_.2) hs_)) (fun k_ hk_ => ⟨hk_.1.1.1.2, hk_.1.1.2⟩)); have n8_ := Aside0.mk (hb); clear HO229; clear HO232; clear HO235; clear HO238; clear HO241; clear HO244; clear HO248; clear HO252; clear HB; have HO229 := n0_; have HO232 := n1_; have HO235 := n2_; have HO238 := n3_; have HO241 := n4_; have HO244 := n5_; have HO248 := n6_; have HO252 := n7_; have HB := n8_; clear n0_ n1_ n2_ n3_ n4_ n5_ n6_ n7_ n8_; (try clear hb); (try clear hkp); (try clear hy0)) | ((with_reducible refine gate_callee (f := 32) rfl ?_); refine goesL_ (some 55) rfl rfl Try.func32 (by kernel_rfl) rfl #[.slice Ao34 t239.length co34, .int .i64 t254] rfl (by (try simp only [List.map_toArray, List.map_cons, List.map_nil]); first | done | rfl | (simp only [List.length_drop, List.length_take]; rfl)) ?_; (with_reducible refine (laws_markReplyS.calls k (fun k_ => (((some k_ ≠ (.slice Ao29 t230.length co29 : Value).ownBlock ∧ some k_ ≠ (.slice Ao42 t250.length co42 : Value).ownBlock)) ∧ w.heap.size ≤ k_ ∧ ∃ q_, q_ ∈ 123 :: (k123).E ∧ ∃ c_, w44.heap[k_]? = some (.cells c_ q_ (0, 0)))) (.slice Ao34 t239.length co34) t239 t254 t256 w _ ?side1 ?side2 A23.out).mono ?_); (case side1 => repeat (first | (with_reducible first | exact HB.out | apply below_alloc | apply pw_below_drewN | apply below_drew1) | exact HB.out)); (case side2 => (with_reducible repeat (first | apply Kd.S_alloc | apply Kd.S_drewN | apply Kd.S_drew)); exact Kd.S_mono (Kd.S_bound HO241.out) (fun k_ hk_ => ⟨hk_.1, hk_.2.1, hk_.2.2.2⟩)); rintro e w45 ⟨rfl, hb, hkp⟩; refine ⟨_, rfl, ?_⟩; have n0_ := Aside0.mk (Kd.R_mono (ok' := fun k_ => some k_ ≠ (.slice Ao33 t236.length co33 : Value).ownBlock ∧ some k_ ≠ (.slice Ao39 t246.length co39 : Value).ownBlock) (Kd.R_keptB ((Go.Proofs.Ytfinjkjnoobbjaa.MyMark.R_also (fun k_ => ¬ (((some k_ ≠ (.slice Ao29 t230.length co29 : Value).ownBlock ∧ some k_ ≠ (.slice Ao42 t250.length co42 : Value).ownBlock)) ∧ w.heap.size ≤ k_ ∧ ∃ q_, q_ ∈ 123 :: (k123).E ∧ ∃ c_, w44.heap[k_]? = some (.cells c_ q_ (0, 0)))) HO229.out (fun k_ _ ht_ hP_ => Go.Proofs.Ytfinjkjnoobbjaa.MyMark.typ_apart ht_ hP_.2.2 (by decide)))) hkp (fun k_ hk_ hs_ => (hk_.2) hs_)) (fun k_ hk_ => ⟨hk_.1.1.1, hk_.1.1.2⟩)); have n1_ := Aside0.mk (Kd.R_mono (ok' := fun k_ => some k_ ≠ (.slice Ao36 t242.length co36 : Value).ownBlock) (Kd.R_keptB ((Go.Proofs.Ytfinjkjnoobbjaa.MyMark.R_also (fun k_ => ¬ (((some k_ ≠ (.slice Ao29 t230.length co29 : Value).ownBlock ∧ some k_ ≠ (.slice Ao42 t250.length co42 : Value).ownBlock)) ∧ w.heap.size ≤ k_ ∧ ∃ q_, q_ ∈ 123 :: (k123).E ∧ ∃ c_, w44.heap[k_]? = some (.cells c_ q_ (0, 0)))) HO235.out (fun k_ _ ht_ hP_ => Go.Proofs.Ytfinjkjnoobbjaa.MyMark.typ_apart ht_ hP_.2.2 (by decide)))) hkp (fun k_ hk_ hs_ => (hk_.2) hs_)) (fun k_ hk_ => hk_.1.1)); have n2_ := Aside0.mk (Kd.R_mono (ok' := fun k_ => some k_ ≠ (.slice Ao28 t227.length co28 : Value).ownBlock ∧ some k_ ≠ (.slice Ao39 t246.length co39 : Value).ownBlock) (Kd.R_keptB ((Go.Proofs.Ytfinjkjnoobbjaa.MyMark.R_also (fun k_ => ¬ (((some k_ ≠ (.slice Ao29 t230.length co29 : Value).ownBlock ∧ some k_ ≠ (.slice Ao42 t250.length co42 : Value).ownBlock)) ∧ w.heap.size ≤ k_ ∧ ∃ q_, q_ ∈ 123 :: (k123).E ∧ ∃ c_, w44.heap[k_]? = some (.cells c_ q_ (0, 0)))) (show Kd.R k120 120 _ w.heap.size (fun k_ => some k_ ≠ (.slice Ao28 t227.length co28 : Value).ownBlock ∧ some k_ ≠ (.slice Ao39 t246.length co39 : Value).ownBlock) (.slice Ao33 t236.length co33) t255 from by first | exact HO238.out | exact (by (with_reducible repeat (first | apply Kd.R_alloc | apply Kd.R_drewN | apply Kd.R_drew)); exact Kd.R_mono HO238.out (fun _ hk => ⟨hk.1.2, hk.2⟩))) (fun k_ _ ht_ hP_ => Go.Proofs.Ytfinjkjnoobbjaa.MyMark.typ_apart ht_ hP_.2.2 (by decide)))) hkp (fun k_ hk_ hs_ => (hk_.2) hs_)) (fun k_ hk_ => ⟨hk_.1.1.1, hk_.1.1.2⟩)); have n3_ := Aside0.mk (Kd.R_mono (ok' := fun k_ => some k_ ≠ (.slice Ao37 t233.length co37 : Value).ownBlock) (Kd.R_keptB ((Go.Proofs.Ytfinjkjnoobbjaa.MyMark.R_also (fun k_ => ¬ (((some k_ ≠ (.slice Ao29 t230.length co29 : Value).ownBlock ∧ some k_ ≠ (.slice Ao42 t250.length co42 : Value).ownBlock)) ∧ w.heap.size ≤ k_ ∧ ∃ q_, q_ ∈ 123 :: (k123).E ∧ ∃ c_, w44.heap[k_]? = some (.cells c_ q_ (0, 0)))) HO244.out (fun k_ _ ht_ hP_ => Go.Proofs.Ytfinjkjnoobbjaa.MyMark.typ_apart ht_ hP_.2.2 (by decide)))) hkp (fun k_ hk_ hs_ => (hk_.2) hs_)) (fun k_ hk_ => hk_.1.1)); have n4_ := Aside0.mk (Kd.R_mono (ok' := fun k_ => some k_ ≠ (.slice Ao28 t227.length co28 : Value).ownBlock ∧ some k_ ≠ (.slice Ao33 t236.length co33 : Value).ownBlock) (Kd.R_keptB ((Go.Proofs.Ytfinjkjnoobbjaa.MyMark.R_also (fun k_ => ¬ (((some k_ ≠ (.slice Ao29 t230.length co29 : Value).ownBlock ∧ some k_ ≠ (.slice Ao42 t250.length co42 : Value).ownBlock)) ∧ w.heap.size ≤ k_ ∧ ∃ q_, q_ ∈ 123 :: (k123).E ∧ ∃ c_, w44.heap[k_]? = some (.cells c_ q_ (0, 0)))) HO248.out (fun k_ _ ht_ hP_ => Go.Proofs.Ytfinjkjnoobbjaa.MyMark.typ_apart ht_ hP_.2.2 (by decide)))) hkp (fun k_ hk_ hs_ => (hk_.2) hs_)) (fun k_ hk_ => ⟨hk_.1.1.1, hk_.1.1.2⟩)); have n5_ := Aside0.mk (hb); clear HO229; clear HO235; clear HO238; clear HO244; clear HO248; clear HB; clear HO232; clear HO241; clear HO252; have HO229 := n0_; have HO235 := n1_; have HO238 := n2_; have HO244 := n3_; have HO248 := n4_; have HB := n5_; clear n0_ n1_ n2_ n3_ n4_ n5_; (try clear hb); (try clear hkp)))
  (try simp only [Act.put, List.setIfInBounds_toArray, List.set_cons_zero, List.set_cons_succ])
  go_cut [63] (fun v63 wc => ∃ (kq : Nat) (x63_23 : Bool), v63 = .bool x63_23 ∧ Aside0 (laws_FnExactNamesIn.j0 kq l0 l1 t233 t242 x63_23 = some r) ∧ Aside0 (kq ≤ k) ∧ Aside0 (Kd.R (Kd.int .i64) 3 wc w.heap.size (fun k_ => some k_ ≠ ((.slice Ao36 t242.length co36) : Value).ownBlock) (.slice Ao37 t233.length co37) t233) ∧ Aside0 (Kd.R (Kd.int .i64) 3 wc w.heap.size (fun k_ => some k_ ≠ ((.slice Ao37 t233.length co37) : Value).ownBlock) (.slice Ao36 t242.length co36) t242) ∧ Aside0 (Below w.heap.size w wc))
  case first =>
    have H := HC24.out
    clear HC24
    by_cases c46 : t256 < 0
    · rw [if_pos c46] at H
      have c46b0 : decide (t256 < 0) = true := decide_eq_true c46
      clear c46
      (first | rw [c46b0] | (simp only [i64_w, i32_w]; rw [c46b0]) | skip)
      have H' := Aside0.mk H
      clear H
      go_wp2
      go_meet
      case rel => exact ⟨_, (true), (by first | rfl | (simp; done) | (simp [*]; done)), H', ⟨by first | omega | exact Nat.le_refl _⟩, ⟨by (with_reducible repeat (first | apply Kd.R_alloc | apply Kd.R_drewN | apply Kd.R_drew)); exact HO235.out⟩, ⟨by (with_reducible repeat (first | apply Kd.R_alloc | apply Kd.R_drewN | apply Kd.R_drew)); exact HO244.out⟩, ⟨by repeat (first | (with_reducible first | exact HB.out | apply below_alloc | apply pw_below_drewN | apply below_drew1) | exact HB.out)⟩⟩
    rw [if_neg c46] at H
    have c46b0 : decide (t256 < 0) = false := decide_eq_false c46
    clear c46
    (first | rw [c46b0] | (simp only [i64_w, i32_w]; rw [c46b0]) | skip)
    replace H := Option.bind_eq_some_iff.mp H
    obtain ⟨t257, A470, H⟩ := H
    replace H : (laws_FnExactNamesIn.j0 k l0 l1 t233 t242 (!t257)) = some r := H
    have A47 := Aside0.mk A470
    clear A470
    have H' := Aside0.mk H
    clear H
    go_wp2_with (first | (go_at_call 28; (with_reducible refine (laws_eqIntS.calls k _ _ t242 _ _ t233 t257 _ ?side1 ?side2 ?side3 ?side4 A47.out).mono ?_); (case side1 => repeat (first | exact (Kd.R_reads' HO244.out).2.2 | (with_reducible refine Kd.C_alloc ?_ _) | (with_reducible refine Kd.C_drewN ?_ _) | (with_reducible refine Kd.C_drew ?_))); (case side2 => exact (Kd.R_reads' HO244.out).2.1); (case side3 => repeat (first | exact (Kd.R_reads' HO235.out).2.2 | (with_reducible refine Kd.C_alloc ?_ _) | (with_reducible refine Kd.C_drewN ?_ _) | (with_reducible refine Kd.C_drew ?_))); (case side4 => exact (Kd.R_reads' HO235.out).2.1); rintro e w' ⟨rfl, ⟨nd, rfl⟩⟩))
    go_meet
    case rel => exact ⟨_, (!t257), (by first | rfl | (simp; done) | (simp [*]; done)), H', ⟨by first | omega | exact Nat.le_refl _⟩, ⟨by (with_reducible repeat (first | apply Kd.R_alloc | apply Kd.R_drewN | apply Kd.R_drew)); exact HO235.out⟩, ⟨by (with_reducible repeat (first | apply Kd.R_alloc | apply Kd.R_drewN | apply Kd.R_drew)); exact HO244.out⟩, ⟨by repeat (first | (with_reducible first | exact HB.out | apply below_alloc | apply pw_below_drewN | apply below_drew1) | exact HB.out)⟩⟩
  case rest =>
    clear HC24
    try clear c1
    try clear c2
    try clear p2
    try clear c3
    try clear c4
    try clear c4b0
    try clear c6
    try clear c6b0
    try clear c15
    try clear c18
    try clear c21
    try clear c22
    try clear c23
    try clear c24
    try clear c25
    try clear c26
    try clear c27
    try clear c28
    try clear c29
    try clear c30
    try clear c31
    try clear c32
    try clear c46
    try clear c46b0
    obtain ⟨kq, x63_23, rfl, HA, HJ23, HO_6, HO_9, HB⟩ := hcut
    cases kq with
    | zero => exact absurd HA.out (by simp [laws_FnExactNamesIn.j0])
    | succ kj23 =>
      have H := HA.out
      clear HA
      simp only [laws_FnExactNamesIn.j0] at H
      by_cases c48 : x63_23 = true
      · subst c48
        have H1 : (none) = some r := by rw [if_pos rfl] at H; exact H
        clear H
        have H := H1
        clear H1
        exact absurd H (by simp)
      replace c48 := Bool.eq_false_iff.mpr c48
      subst c48
      have H1 : ((laws_markIntS.f kj23 t242 1).bind fun bt258 => ((laws_heldIntS.f kj23 bt258.2 1).bind fun t260 => (if t260 < 0 then (none) else (if t260 = bt258.1 then ((laws_toCmdS.f kj23 l0).bind fun t261 => ((laws_toReplyS.f kj23 l1).bind fun t264 => ((impl_NamesIn.f kj23 t261 t264).bind fun t267 => ((laws_eqIntS.f kj23 t267 t233).bind fun t270 => (if t270 = true then ((laws_heldIntS.f kj23 bt258.2 1).bind fun t271 => (if t271 < 0 then (none) else (if t271 = bt258.1 then (some true) else (none)))) else (none)))))) else (none))))) = some r := by rw [if_neg (show ¬ (false = true) by decide)] at H; exact H
      clear H
      have H := H1
      clear H1
      replace H := Option.bind_eq_some_iff.mp H
      obtain ⟨⟨t258, t259⟩, A490, H⟩ := H
      replace H : ((laws_heldIntS.f kj23 t259 1).bind fun t260 => (if t260 < 0 then (none) else (if t260 = t258 then ((laws_toCmdS.f kj23 l0).bind fun t261 => ((laws_toReplyS.f kj23 l1).bind fun t264 => ((impl_NamesIn.f kj23 t261 t264).bind fun t267 => ((laws_eqIntS.f kj23 t267 t233).bind fun t270 => (if t270 = true then ((laws_heldIntS.f kj23 t259 1).bind fun t271 => (if t271 < 0 then (none) else (if t271 = t258 then (some true) else (none)))) else (none)))))) else (none)))) = some r := H
      have A49 := Aside0.mk A490
      clear A490
      replace H := Option.bind_eq_some_iff.mp H
      obtain ⟨t260, A500, H⟩ := H
      replace H : (if t260 < 0 then (none) else (if t260 = t258 then ((laws_toCmdS.f kj23 l0).bind fun t261 => ((laws_toReplyS.f kj23 l1).bind fun t264 => ((impl_NamesIn.f kj23 t261 t264).bind fun t267 => ((laws_eqIntS.f kj23 t267 t233).bind fun t270 => (if t270 = true then ((laws_heldIntS.f kj23 t259 1).bind fun t271 => (if t271 < 0 then (none) else (if t271 = t258 then (some true) else (none)))) else (none)))))) else (none))) = some r := H
      have A50 := Aside0.mk A500
      clear A500
      by_cases c51 : t260 < 0
      · rw [if_pos c51] at H
        exact absurd H (by simp)
      rw [if_neg c51] at H
      have c51b0 : decide (t260 < 0) = false := decide_eq_false c51
      clear c51
      by_cases c52 : t260 = t258
      rotate_left
      · rw [if_neg c52] at H
        exact absurd H (by simp)
      rw [if_pos c52] at H
      have c52b0 : (t260 == t258) = true := beq_iff_eq.mpr c52
      have c52b1 : (t260 != t258) = false := bne_eq_false_iff_eq.mpr c52
      clear c52
      replace H := Option.bind_eq_some_iff.mp H
      obtain ⟨t261, A530, H⟩ := H
      replace H : ((laws_toReplyS.f kj23 l1).bind fun t264 => ((impl_NamesIn.f kj23 t261 t264).bind fun t267 => ((laws_eqIntS.f kj23 t267 t233).bind fun t270 => (if t270 = true then ((laws_heldIntS.f kj23 t259 1).bind fun t271 => (if t271 < 0 then (none) else (if t271 = t258 then (some true) else (none)))) else (none))))) = some r := H
      have A53 := Aside0.mk A530
      clear A530
      replace H := Option.bind_eq_some_iff.mp H
      obtain ⟨t264, A540, H⟩ := H
      replace H : ((impl_NamesIn.f kj23 t261 t264).bind fun t267 => ((laws_eqIntS.f kj23 t267 t233).bind fun t270 => (if t270 = true then ((laws_heldIntS.f kj23 t259 1).bind fun t271 => (if t271 < 0 then (none) else (if t271 = t258 then (some true) else (none)))) else (none)))) = some r := H
      have A54 := Aside0.mk A540
      clear A540
      replace H := Option.bind_eq_some_iff.mp H
      obtain ⟨t267, A550, H⟩ := H
      replace H : ((laws_eqIntS.f kj23 t267 t233).bind fun t270 => (if t270 = true then ((laws_heldIntS.f kj23 t259 1).bind fun t271 => (if t271 < 0 then (none) else (if t271 = t258 then (some true) else (none)))) else (none))) = some r := H
      have A55 := Aside0.mk A550
      clear A550
      replace H := Option.bind_eq_some_iff.mp H
      obtain ⟨t270, A560, H⟩ := H
      replace H : (if t270 = true then ((laws_heldIntS.f kj23 t259 1).bind fun t271 => (if t271 < 0 then (none) else (if t271 = t258 then (some true) else (none)))) else (none)) = some r := H
      have A56 := Aside0.mk A560
      clear A560
      by_cases c57 : t270 = true
      rotate_left
      · replace c57 := Bool.eq_false_iff.mpr c57
        subst c57
        have H1 : (none) = some r := by rw [if_neg (show ¬ (false = true) by decide)] at H; exact H
        clear H
        have H := H1
        clear H1
        exact absurd H (by simp)
      subst c57
      have H1 : ((laws_heldIntS.f kj23 t259 1).bind fun t271 => (if t271 < 0 then (none) else (if t271 = t258 then (some true) else (none)))) = some r := by rw [if_pos rfl] at H; exact H
      clear H
      have H := H1
      clear H1
      replace H := Option.bind_eq_some_iff.mp H
      obtain ⟨t271, A580, H⟩ := H
      replace H : (if t271 < 0 then (none) else (if t271 = t258 then (some true) else (none))) = some r := H
      have A58 := Aside0.mk A580
      clear A580
      by_cases c59 : t271 < 0
      · rw [if_pos c59] at H
        exact absurd H (by simp)
      rw [if_neg c59] at H
      have c59b0 : decide (t271 < 0) = false := decide_eq_false c59
      clear c59
      by_cases c60 : t271 = t258
      rotate_left
      · rw [if_neg c60] at H
        exact absurd H (by simp)
      rw [if_pos c60] at H
      have c60b0 : (t271 == t258) = true := beq_iff_eq.mpr c60
      have c60b1 : (t271 != t258) = false := bne_eq_false_iff_eq.mpr c60
      clear c60
      obtain rfl := Option.some.inj H
      go_wp2_with (first | ((with_reducible refine gate_callee (f := 33) rfl ?_); refine goesL_ (some 66) rfl rfl Try.func33 (by kernel_rfl) rfl #[.slice Ao36 t242.length co36, .int .i64 1] rfl (by (try simp only [List.map_toArray, List.map_cons, List.map_nil]); first | done | rfl | (simp only [List.length_drop, List.length_take]; rfl)) ?_; (with_reducible refine (laws_markIntS.calls kj23 (fun k_ => some k_ = (.slice Ao36 t242.length co36 : Value).ownBlock) (.slice Ao36 t242.length co36) t242 1 t258 t259 w _ ?side1 ?side2 A49.out).mono ?_); (case side1 => repeat (first | (with_reducible first | exact HB.out | apply below_alloc | apply pw_below_drewN | apply below_drew1) | exact HB.out)); (case side2 => exact Kd.R_tight rfl HO_9.out); rintro e w61 ⟨rfl, hy0, hb, hkp⟩; refine ⟨_, rfl, ?_⟩; have n0_ := Aside0.mk (Kd.R_mono (ok' := fun k_ => some k_ ≠ (.slice Ao36 t242.length co36 : Value).ownBlock) (Kd.R_keptB (HO_6.out) hkp (fun k_ hk_ hs_ => (hk_) hs_)) (fun k_ hk_ => hk_.1)); have n1_ := Aside0.mk (Kd.R_reok rfl hy0 (fun k_ e_ => HO_9.out.1 k_ e_)); have n2_ := Aside0.mk (hb); clear HO_6; clear HO_9; clear HB; have HO_6 := n0_; have HO_9 := n1_; have HB := n2_; clear n0_ n1_ n2_; (try clear hb); (try clear hkp); (try clear hy0)) | ((with_reducible refine gate_callee (f := 34) rfl ?_); refine goesL_ (some 69) rfl rfl Try.func34 (by kernel_rfl) rfl #[.slice Ao36 t259.length co36, .int .i64 1] rfl (by (try simp only [List.map_toArray, List.map_cons, List.map_nil]); first | done | (rw [show t259.length = t242.length from (Kd.R_reads' HO_9.out).1.symm] <;> rfl) | rfl | (simp only [List.length_drop, List.length_take]; rfl)) ?_; (with_reducible refine (laws_heldIntS.calls kj23 _ _ t259 1 t260 _ ?side1 ?side2 A50.out).mono ?_); (case side1 => repeat (first | exact (Kd.R_reads' HO_9.out).2.2 | (with_reducible refine Kd.C_alloc ?_ _) | (with_reducible refine Kd.C_drewN ?_ _) | (with_reducible refine Kd.C_drew ?_))); (case side2 => rw [show t259.length = t242.length from (Kd.R_reads' HO_9.out).1.symm]; exact (Kd.R_reads' HO_9.out).2.1); rintro e w' ⟨rfl, ⟨nd, rfl⟩⟩; refine ⟨_, rfl, ?_⟩) | ((with_reducible refine gate_callee (f := 25) rfl ?_); refine goesL_ (some 76) rfl rfl Try.func25 (by kernel_rfl) rfl #[.slice A0 l0.length c0] rfl (by (try simp only [List.map_toArray, List.map_cons, List.map_nil]); first | done | rfl | (simp only [List.length_drop, List.length_take]; rfl)) ?_; (with_reducible refine (laws_toCmdS.calls kj23 _ _ l0 t261 _ ?side1 ?side2 A53.out).mono ?_); (case side1 => repeat (first | exact (Kd.C_below HR0.out (by repeat (first | (with_reducible first | exact HB.out | apply below_alloc | apply pw_below_drewN | apply below_drew1) | exact HB.out))) | (with_reducible refine Kd.C_alloc ?_ _) | (with_reducible refine Kd.C_drewN ?_ _) | (with_reducible refine Kd.C_drew ?_))); (case side2 => exact HC0.out); rintro e w62 ⟨v262, rfl, ho0, hb⟩; refine ⟨_, rfl, ?_⟩; have n0_ := Aside0.mk (Kd.R_below (by (with_reducible repeat (first | apply Kd.R_alloc | apply Kd.R_drewN | apply Kd.R_drew)); exact HO_6.out) hb); have n1_ := Aside0.mk (Kd.R_below (by (with_reducible repeat (first | apply Kd.R_alloc | apply Kd.R_drewN | apply Kd.R_drew)); exact HO_9.out) hb); have n2_ := Aside0.mk (Kd.R_lower ho0 (below_size (by repeat (first | (with_reducible first | exact HB.out | apply below_alloc | apply pw_below_drewN | apply below_drew1) | exact HB.out)))); have n3_ := Aside0.mk (below_step (by repeat (first | (with_reducible first | exact HB.out | apply below_alloc | apply pw_below_drewN | apply below_drew1) | exact HB.out)) hb); clear HO_6; clear HO_9; clear HB; have HO_6 := n0_; have HO_9 := n1_; have HO263 := n2_; have HB := n3_; clear n0_ n1_ n2_ n3_; (try clear hb); (try clear hb2); (try clear hk); (try clear hi); (try clear ho0)) | ((with_reducible refine gate_callee (f := 26) rfl ?_); refine goesL_ (some 78) rfl rfl Try.func26 (by kernel_rfl) rfl #[.slice A1 l1.length c1] rfl (by (try simp only [List.map_toArray, List.map_cons, List.map_nil]); first | done | rfl | (simp only [List.length_drop, List.length_take]; rfl)) ?_; (with_reducible refine (laws_toReplyS.calls kj23 _ _ l1 t264 _ ?side1 ?side2 A54.out).mono ?_); (case side1 => repeat (first | exact (Kd.C_below HR1.out HB.out) | (with_reducible refine Kd.C_alloc ?_ _) | (with_reducible refine Kd.C_drewN ?_ _) | (with_reducible refine Kd.C_drew ?_))); (case side2 => exact HC1.out); rintro e w63 ⟨v265, rfl, ho0, hb⟩; refine ⟨_, rfl, ?_⟩; have n0_ := Aside0.mk (Kd.R_below (by (with_reducible repeat (first | apply Kd.R_alloc | apply Kd.R_drewN | apply Kd.R_drew)); exact HO_6.out) hb); have n1_ := Aside0.mk (Kd.R_below (by (with_reducible repeat (first | apply Kd.R_alloc | apply Kd.R_drewN | apply Kd.R_drew)); exact HO_9.out) hb); have n2_ := Aside0.mk (Kd.R_below (by (with_reducible repeat (first | apply Kd.R_alloc | apply Kd.R_drewN | apply Kd.R_drew)); exact HO263.out) hb); have n3_ := Aside0.mk (Kd.S_lower ho0 (below_size (by repeat (first | (with_reducible first | exact HB.out | apply below_alloc | apply pw_below_drewN | apply below_drew1) | exact HB.out)))); have n4_ := Aside0.mk (below_step (by repeat (first | (with_reducible first | exact HB.out | apply below_alloc | apply pw_below_drewN | apply below_drew1) | exact HB.out)) hb); clear HO_6; clear HO_9; clear HO263; clear HB; have HO_6 := n0_; have HO_9 := n1_; have HO263 := n2_; have HO266 := n3_; have HB := n4_; clear n0_ n1_ n2_ n3_ n4_; (try clear hb); (try clear hb2); (try clear hk); (try clear hi); (try clear ho0); obtain ⟨Ao64, co64, eo64⟩ := Kd.R_slice HO263.out; subst eo64; obtain ⟨Ao65, co65, eo65⟩ := Kd.S_slice HO266.out; subst eo65) | ((with_reducible refine gate_callee (f := 27) rfl ?_); refine goesL_ (some 79) rfl rfl Try.func27 (by kernel_rfl) rfl #[.slice Ao64 t261.length co64, .slice Ao65 t264.length co65] rfl (by (try simp only [List.map_toArray, List.map_cons, List.map_nil]); first | done | rfl | (simp only [List.length_drop, List.length_take]; rfl)) ?_; (with_reducible refine (impl_NamesIn.calls kj23 _ _ t261 _ _ t264 t267 _ ?side1 ?side2 ?side3 ?side4 A55.out).mono ?_); (case side1 => repeat (first | exact (Kd.R_reads' HO263.out).2.2 | (with_reducible refine Kd.C_alloc ?_ _) | (with_reducible refine Kd.C_drewN ?_ _) | (with_reducible refine Kd.C_drew ?_))); (case side2 => exact (Kd.R_reads' HO263.out).2.1); (case side3 => repeat (first | exact (Kd.S_reads' HO266.out).2.2 | (with_reducible refine Kd.C_alloc ?_ _) | (with_reducible refine Kd.C_drewN ?_ _) | (with_reducible refine Kd.C_drew ?_))); (case side4 => exact (Kd.S_reads' HO266.out).2.1); rintro e w66 ⟨v268, rfl, ho0, hb⟩; refine ⟨_, rfl, ?_⟩; have n0_ := Aside0.mk (Kd.R_elder' (by (with_reducible repeat (first | apply Kd.R_alloc | apply Kd.R_drewN | apply Kd.R_drew)); exact HO_6.out) (Kd.R_base ho0) hb); have n1_ := Aside0.mk (Kd.R_elder' (by (with_reducible repeat (first | apply Kd.R_alloc | apply Kd.R_drewN | apply Kd.R_drew)); exact HO_9.out) (Kd.R_base ho0) hb); have n2_ := Aside0.mk (Kd.R_below (by (with_reducible repeat (first | apply Kd.R_alloc | apply Kd.R_drewN | apply Kd.R_drew)); exact HO263.out) hb); have n3_ := Aside0.mk (Kd.S_below (by (with_reducible repeat (first | apply Kd.S_alloc | apply Kd.S_drewN | apply Kd.S_drew)); exact HO266.out) hb); have n4_ := Aside0.mk (Kd.R_lower (Kd.R_new' (Kd.R_new' ho0 (Kd.R_lt (by (with_reducible repeat (first | apply Kd.R_alloc | apply Kd.R_drewN | apply Kd.R_drew)); exact HO_6.out))) (Kd.R_lt (by (with_reducible repeat (first | apply Kd.R_alloc | apply Kd.R_drewN | apply Kd.R_drew)); exact HO_9.out))) (below_size (by repeat (first | (with_reducible first | exact HB.out | apply below_alloc | apply pw_below_drewN | apply below_drew1) | exact HB.out)))); have n5_ := Aside0.mk (below_step (by repeat (first | (with_reducible first | exact HB.out | apply below_alloc | apply pw_below_drewN | apply below_drew1) | exact HB.out)) hb); clear HO_6; clear HO_9; clear HO263; clear HO266; clear HB; have HO_6 := n0_; have HO_9 := n1_; have HO263 := n2_; have HO266 := n3_; have HO269 := n4_; have HB := n5_; clear n0_ n1_ n2_ n3_ n4_ n5_; (try clear hb); (try clear hb2); (try clear hk); (try clear hi); (try clear ho0); obtain ⟨Ao67, co67, eo67⟩ := Kd.R_slice HO269.out; subst eo67) | ((with_reducible refine gate_callee (f := 28) rfl ?_); refine goesL_ (some 82) rfl rfl Try.func28 (by kernel_rfl) rfl #[.slice Ao67 t267.length co67, .slice Ao37 t233.length co37] rfl (by (try simp only [List.map_toArray, List.map_cons, List.map_nil]); first | done | rfl | (simp only [List.length_drop, List.length_take]; rfl)) ?_; (with_reducible refine (laws_eqIntS.calls kj23 _ _ t267 _ _ t233 true _ ?side1 ?side2 ?side3 ?side4 A56.out).mono ?_); (case side1 => repeat (first | exact (Kd.R_reads' HO269.out).2.2 | (with_reducible refine Kd.C_alloc ?_ _) | (with_reducible refine Kd.C_drewN ?_ _) | (with_reducible refine Kd.C_drew ?_))); (case side2 => exact (Kd.R_reads' HO269.out).2.1); (case side3 => repeat (first | exact (Kd.R_reads' HO_6.out).2.2 | (with_reducible refine Kd.C_alloc ?_ _) | (with_reducible refine Kd.C_drewN ?_ _) | (with_reducible refine Kd.C_drew ?_))); (case side4 => exact (Kd.R_reads' HO_6.out).2.1); rintro e w' ⟨rfl, ⟨nd, rfl⟩⟩; refine ⟨_, rfl, ?_⟩) | ((with_reducible refine gate_callee (f := 34) rfl ?_); refine goesL_ (some 86) rfl rfl Try.func34 (by kernel_rfl) rfl #[.slice Ao36 t259.length co36, .int .i64 1] rfl (by (try simp only [List.map_toArray, List.map_cons, List.map_nil]); first | done | (rw [show t259.length = t242.length from (Kd.R_reads' HO_9.out).1.symm] <;> rfl) | rfl | (simp only [List.length_drop, List.length_take]; rfl)) ?_; (with_reducible refine (laws_heldIntS.calls kj23 _ _ t259 1 t271 _ ?side1 ?side2 A58.out).mono ?_); (case side1 => repeat (first | exact (Kd.R_reads' HO_9.out).2.2 | (with_reducible refine Kd.C_alloc ?_ _) | (with_reducible refine Kd.C_drewN ?_ _) | (with_reducible refine Kd.C_drew ?_))); (case side2 => rw [show t259.length = t242.length from (Kd.R_reads' HO_9.out).1.symm]; exact (Kd.R_reads' HO_9.out).2.1); rintro e w' ⟨rfl, ⟨nd, rfl⟩⟩; refine ⟨_, rfl, ?_⟩))
      go_ret
      exact ⟨by first | rfl | (simp [errW_none, errW_some] <;> rfl) | (simp [*, errW_none, errW_some] <;> rfl), by repeat (first | (with_reducible first | exact HB.out | apply below_alloc | apply pw_below_drewN | apply below_drew1) | exact HB.out)⟩

end Go.Proofs.Ytfinjkjnoobbjaa.MFnExactNamesIn
