/- Made by a program of this session (out of the kit's print, with hand-made contracts): what each Go function that the law reaches computes, and that the machine's call does so. -/
import Derived.Test.YtaddjeoncbmohaaDoorMFnCmdsx0
import Derived.Test.YtaddjeoncbmohaaDoorMFnCmdsx4
namespace Go.Proofs.YtaddjeoncbmohaaDoor.MFnCmds
open Go.RowKit Go.Proofs.YtaddjeoncbmohaaDoorW.PrintWords Go.Proofs.YtaddjeoncbmohaaDoorW.PrintLast Go.Proofs.YtaddjeoncbmohaaDoorW.PrintMore
attribute [local go_sem] max2_int min2_int max_two min_two max_three min_three max_four min_four   -- for this text's walks alone
set_option linter.unusedVariables false
set_option linter.unusedSimpArgs false

/-! ### impl_signed: function 23 -/
def impl_signed.f (a0 : ByteArray) (a1 : Int) (a2 : Int) : Option (Int × Bool) := if a0.size ≤ 140737488355328 then (match Lib.atoiAll a0.data.toList with
  | .ok v => if v < a1 then some (0, false) else if v > a2 then some (0, false) else if (⟨(Lib.itoa v).toArray⟩ : ByteArray).toList = a0.toList then some (v, true) else some (0, false)
  | _ => some (0, false)) else none
section
open Go.Shelf
def impl_signed.lays_ren : Go.Shelf.Ren := ⟨fun | 172 => 37 | 244 => 46 | 245 => 47 | 247 => 53 | 279 => 54 | 280 => 55 | 281 => 56 | 282 => 57 | 287 => 64 | 316 => 65 | 171 => 40 | 205 => 66 | 321 => 73 | 322 => 74 | 243 => 48 | 246 => 58 | 283 => 67 | 284 => 68 | 285 => 69 | 286 => 70 | 129 => 76 | 317 => 75 | 318 => 77 | 319 => 78 | 320 => 79 | 337 => 80 | 338 => 81 | n => n, fun | 9 => 9 | 3 => 3 | 75 => 61 | 76 => 62 | 4 => 4 | 5 => 5 | 167 => 77 | 37 => 28 | 0 => 0 | 85 => 78 | 2 => 2 | 168 => 80 | 53 => 85 | 175 => 86 | 46 => 72 | 210 => 90 | 127 => 105 | 145 => 108 | 143 => 106 | 21 => 21 | 171 => 92 | 173 => 95 | 212 => 110 | 51 => 101 | 20 => 20 | 213 => 111 | 232 => 115 | 233 => 116 | 80 => 117 | n => n, fun | 15 => 1 | 16 => 2 | 17 => 5 | 18 => 6 | 19 => 7 | n => n⟩
theorem impl_signed.lays : Go.Proofs.LaysC.n172 Tryd.prog impl_signed.lays_ren := {
  mixed := by kernel_rfl
  f129 := Tryd.func76.trans (congrArg some (by kernel_rfl))
  f171 := Tryd.func40.trans (congrArg some (by kernel_rfl))
  f172 := Tryd.func37.trans (congrArg some (by kernel_rfl))
  f205 := Tryd.func66.trans (congrArg some (by kernel_rfl))
  f243 := Tryd.func48.trans (congrArg some (by kernel_rfl))
  f244 := Tryd.func46.trans (congrArg some (by kernel_rfl))
  f245 := Tryd.func47.trans (congrArg some (by kernel_rfl))
  f246 := Tryd.func58.trans (congrArg some (by kernel_rfl))
  f247 := Tryd.func53.trans (congrArg some (by kernel_rfl))
  f279 := Tryd.func54.trans (congrArg some (by kernel_rfl))
  f280 := Tryd.func55.trans (congrArg some (by kernel_rfl))
  f281 := Tryd.func56.trans (congrArg some (by kernel_rfl))
  f282 := Tryd.func57.trans (congrArg some (by kernel_rfl))
  f283 := Tryd.func67.trans (congrArg some (by kernel_rfl))
  f284 := Tryd.func68.trans (congrArg some (by kernel_rfl))
  f285 := Tryd.func69.trans (congrArg some (by kernel_rfl))
  f286 := Tryd.func70.trans (congrArg some (by kernel_rfl))
  f287 := Tryd.func64.trans (congrArg some (by kernel_rfl))
  f316 := Tryd.func65.trans (congrArg some (by kernel_rfl))
  f317 := Tryd.func75.trans (congrArg some (by kernel_rfl))
  f318 := Tryd.func77.trans (congrArg some (by kernel_rfl))
  f319 := Tryd.func78.trans (congrArg some (by kernel_rfl))
  f320 := Tryd.func79.trans (congrArg some (by kernel_rfl))
  f321 := Tryd.func73.trans (congrArg some (by kernel_rfl))
  f322 := Tryd.func74.trans (congrArg some (by kernel_rfl))
  f337 := Tryd.func80.trans (congrArg some (by kernel_rfl))
  f338 := Tryd.func81.trans (congrArg some (by kernel_rfl))
  t0 := Tryd.underlying0
  a0 := Tryd.isAgg0
  z0 := Tryd.sizeOf0
  v0 := Tryd.zeroValue0
  t2 := Tryd.underlying2
  a2 := Tryd.isAgg2
  z2 := Tryd.sizeOf2
  v2 := Tryd.zeroValue2
  t3 := Tryd.underlying3
  a3 := Tryd.isAgg3
  z3 := Tryd.sizeOf3
  v3 := Tryd.zeroValue3
  t4 := Tryd.underlying4
  a4 := Tryd.isAgg4
  z4 := Tryd.sizeOf4
  v4 := Tryd.zeroValue4
  t5 := Tryd.underlying5
  a5 := Tryd.isAgg5
  z5 := Tryd.sizeOf5
  v5 := Tryd.zeroValue5
  t9 := Tryd.underlying9
  a9 := Tryd.isAgg9
  z9 := Tryd.sizeOf9
  v9 := Tryd.zeroValue9
  t20 := Tryd.underlying20
  a20 := Tryd.isAgg20
  z20 := Tryd.sizeOf20
  v20 := Tryd.zeroValue20
  t21 := Tryd.underlying21
  a21 := Tryd.isAgg21
  z21 := Tryd.sizeOf21
  v21 := Tryd.zeroValue21
  t37 := Tryd.underlying28
  a37 := Tryd.isAgg28
  z37 := Tryd.sizeOf28
  v37 := Tryd.zeroValue28
  t46 := Tryd.underlying72
  a46 := Tryd.isAgg72
  z46 := Tryd.sizeOf72
  v46 := Tryd.zeroValue72
  t51 := Tryd.underlying101
  a51 := Tryd.isAgg101
  z51 := Tryd.sizeOf101
  v51 := Tryd.zeroValue101
  t53 := Tryd.underlying85
  a53 := Tryd.isAgg85
  z53 := Tryd.sizeOf85
  v53 := Tryd.zeroValue85
  t75 := Tryd.underlying61
  a75 := Tryd.isAgg61
  z75 := Tryd.sizeOf61
  v75 := Tryd.zeroValue61
  t76 := Tryd.underlying62
  a76 := Tryd.isAgg62
  z76 := Tryd.sizeOf62
  v76 := Tryd.zeroValue62
  t85 := Tryd.underlying78
  a85 := Tryd.isAgg78
  z85 := Tryd.sizeOf78
  v85 := Tryd.zeroValue78
  t127 := Tryd.underlying105
  a127 := Tryd.isAgg105
  z127 := Tryd.sizeOf105
  v127 := Tryd.zeroValue105
  t143 := Tryd.underlying106
  a143 := Tryd.isAgg106
  z143 := Tryd.sizeOf106
  v143 := Tryd.zeroValue106
  t145 := Tryd.underlying108
  a145 := Tryd.isAgg108
  z145 := Tryd.sizeOf108
  v145 := Tryd.zeroValue108
  t167 := Tryd.underlying77
  a167 := Tryd.isAgg77
  z167 := Tryd.sizeOf77
  v167 := Tryd.zeroValue77
  t168 := Tryd.underlying80
  a168 := Tryd.isAgg80
  z168 := Tryd.sizeOf80
  v168 := Tryd.zeroValue80
  t171 := Tryd.underlying92
  a171 := Tryd.isAgg92
  z171 := Tryd.sizeOf92
  v171 := Tryd.zeroValue92
  t173 := Tryd.underlying95
  a173 := Tryd.isAgg95
  z173 := Tryd.sizeOf95
  v173 := Tryd.zeroValue95
  t175 := Tryd.underlying86
  a175 := Tryd.isAgg86
  z175 := Tryd.sizeOf86
  v175 := Tryd.zeroValue86
  t210 := Tryd.underlying90
  a210 := Tryd.isAgg90
  z210 := Tryd.sizeOf90
  v210 := Tryd.zeroValue90
  t212 := Tryd.underlying110
  a212 := Tryd.isAgg110
  z212 := Tryd.sizeOf110
  v212 := Tryd.zeroValue110
  t213 := Tryd.underlying111
  a213 := Tryd.isAgg111
  z213 := Tryd.sizeOf111
  t232 := Tryd.underlying115
  a232 := Tryd.isAgg115
  z232 := Tryd.sizeOf115
  v232 := Tryd.zeroValue115
  t233 := Tryd.underlying116
  a233 := Tryd.isAgg116
  z233 := Tryd.sizeOf116
  v233 := Tryd.zeroValue116
  g15 := by kernel_rfl
  g16 := by kernel_rfl
  g17 := by kernel_rfl
  g18 := by kernel_rfl
  g19 := by kernel_rfl
  t80 := Tryd.underlying117
  a80 := Tryd.isAgg117
  z80 := Tryd.sizeOf117
  v80 := Tryd.zeroValue117
  i0 := by kernel_rfl
  i2 := by kernel_rfl
  i3 := by kernel_rfl
  i4 := by kernel_rfl
  i5 := by kernel_rfl
  i9 := by kernel_rfl
  i20 := by kernel_rfl
  i21 := by kernel_rfl
  i37 := by kernel_rfl
  i46 := by kernel_rfl
  i51 := by kernel_rfl
  i53 := by kernel_rfl
  i75 := by kernel_rfl
  i76 := by kernel_rfl
  i80 := by kernel_rfl
  i85 := by kernel_rfl
  i127 := by kernel_rfl
  i143 := by kernel_rfl
  i145 := by kernel_rfl
  i167 := by kernel_rfl
  i168 := by kernel_rfl
  i171 := by kernel_rfl
  i173 := by kernel_rfl
  i175 := by kernel_rfl
  i210 := by kernel_rfl
  i212 := by kernel_rfl
  i232 := by kernel_rfl
  i233 := by kernel_rfl
  m15 := by kernel_rfl
  m16 := by kernel_rfl
  m17 := by kernel_rfl
  m18 := by kernel_rfl
  m19 := by kernel_rfl
  c0 := by kernel_rfl
  c2 := by kernel_rfl
  c3 := by kernel_rfl
  c4 := by kernel_rfl
  c5 := by kernel_rfl
  c9 := by kernel_rfl
  c20 := by kernel_rfl
  c21 := by kernel_rfl
  c37 := by kernel_rfl
  c46 := by kernel_rfl
  c51 := by kernel_rfl
  c53 := by kernel_rfl
  c75 := by kernel_rfl
  c76 := by kernel_rfl
  c80 := by kernel_rfl
  c85 := by kernel_rfl
  c127 := by kernel_rfl
  c143 := by kernel_rfl
  c145 := by kernel_rfl
  c167 := by kernel_rfl
  c168 := by kernel_rfl
  c171 := by kernel_rfl
  c173 := by kernel_rfl
  c175 := by kernel_rfl
  c210 := by kernel_rfl
  c212 := by kernel_rfl
  c213 := by kernel_rfl
  c232 := by kernel_rfl
  c233 := by kernel_rfl }
end
open Go.Proofs.YtaddjeoncbmohaaDoor.MyDoor in
/-- What strconv.Atoi tells. -/
theorem impl_signed.atoi (a0 : ByteArray) (hs : a0.size ≤ 140737488355328) (w : World) (ht : Door true w) :
    (∀ v, Lib.atoiAll a0.data.toList = .ok v → Calls Tryd.prog 37 #[.string a0] w fun e w' => e = .returned (.tuple #[.int .i64 v, .nilIface]) ∧ Below w.heap.size w w') ∧
    ((∀ v, Lib.atoiAll a0.data.toList ≠ .ok v) → Calls Tryd.prog 37 #[.string a0] w fun e w' => ∃ (n : Int) (t N : Nat), e = .returned (.tuple #[.int .i64 n, .iface t (.pointer (some ⟨N, 0, none⟩))]) ∧ Below w.heap.size w w') := by
  refine ⟨fun v hv => (Any.strconv_Atoi_ok impl_signed.lays a0 (by omega) v hv w).mono fun e w' ⟨he, hw⟩ => ⟨he, ?_⟩, fun hno => ?_⟩
  · rcases hw with rfl | ⟨t, rfl⟩
    · exact Below.refl _ _
    · exact ⟨rfl, rfl, rfl, by rw [Lib.bytesWorld_size]; omega, fun k hk => Lib.bytesWorld_at_old w _ t k hk⟩
  · obtain ⟨⟨tp1, p1, v1⟩, tp2, p2, v2⟩ := ht.here.2.1 rfl
    rcases hA : Lib.atoiAll a0.data.toList with v | _ | _
    · exact absurd hA (hno v)
    · exact (Any.strconv_Atoi_syntax_var impl_signed.lays a0 (by omega) hA tp1 p1 w v1).mono fun e w' ⟨N, he, _, _, hb⟩ => ⟨_, _, N, he, hb⟩
    · exact (Any.strconv_Atoi_range_var impl_signed.lays a0 (by omega) hA tp2 p2 w v2).mono fun e w' ⟨N, he, _, _, hb⟩ => ⟨_, _, N, he, hb⟩
open Go.Proofs.YtaddjeoncbmohaaDoor.MyDoor in
set_option maxHeartbeats 4000000 in
set_option maxRecDepth 100000 in
theorem impl_signed.calls (a0 : ByteArray) (a1 : Int) (a2 : Int) (r1 : Int) (r2 : Bool) (w : World) (ht : Door true w) (h : impl_signed.f a0 a1 a2 = some (r1, r2)) :
    Calls Tryd.prog 23 #[.string a0, .int .i64 a1, .int .i64 a2] w fun e w' => e = .returned (.tuple #[.int .i64 r1, .bool r2]) ∧ Below w.heap.size w w' := by
  unfold impl_signed.f at h
  by_cases hs : a0.size ≤ 140737488355328
  · rw [if_pos hs] at h
    obtain ⟨c1, c2⟩ := impl_signed.atoi a0 hs w ht
    have HB := Aside0.mk (Below.refl w.heap.size w)
    have HT := Aside0.mk ht
    clear ht
    rcases hA : Lib.atoiAll a0.data.toList with v | _ | _
    · have C := Aside0.mk (c1 v hA)
      obtain ⟨b0, b1⟩ := Lib.atoiAll_bounds hA
      have D : Aside0 (impl_Decimal.f v = some ⟨(Lib.itoa v).toArray⟩) := ⟨if_pos ⟨b0, b1⟩⟩
      rw [hA] at h
      replace h : (if v < a1 then some ((0 : Int), false) else if v > a2 then some (0, false) else if (⟨(Lib.itoa v).toArray⟩ : ByteArray).toList = a0.toList then some (v, true) else some (0, false)) = some (r1, r2) := h
      clear c1 c2 hA b0 b1 hs
      generalize (⟨(Lib.itoa v).toArray⟩ : ByteArray) = t at h D
      by_cases h1 : v < a1
      · rw [if_pos h1] at h
        have h1b : decide (v < a1) = true := decide_eq_true h1
        clear h1
        simp only [Option.some.injEq, Prod.mk.injEq] at h
        obtain ⟨rfl, rfl⟩ := h
        go_enter Tryd.func23, Tryd.ntmps23
        go_wp2_with (first | (go_at_call 37; refine C.out.mono ?_; rintro e w1 ⟨rfl, hb⟩; have H2 := Aside0.mk (HB.out.trans hb); clear hb HB; have HB := H2; clear H2) | (go_at_call 28; refine (impl_Decimal.calls v t _ (Door.go HT.out HB.out) D.out).mono ?_; rintro e w2 ⟨rfl, hb⟩; have H2 := Aside0.mk (HB.out.trans (hb.mono HB.out.size)); clear hb HB; have HB := H2; clear H2))
        go_ret2
        exact ⟨rfl, HB.out⟩
      · rw [if_neg h1] at h
        have h1b : decide (v < a1) = false := decide_eq_false h1
        clear h1
        by_cases h2 : v > a2
        · rw [if_pos h2] at h
          have h2b : decide (v > a2) = true := decide_eq_true h2
          have h2c : decide (a2 < v) = true := decide_eq_true h2
          clear h2
          simp only [Option.some.injEq, Prod.mk.injEq] at h
          obtain ⟨rfl, rfl⟩ := h
          go_enter Tryd.func23, Tryd.ntmps23
          go_wp2_with (first | (go_at_call 37; refine C.out.mono ?_; rintro e w1 ⟨rfl, hb⟩; have H2 := Aside0.mk (HB.out.trans hb); clear hb HB; have HB := H2; clear H2) | (go_at_call 28; refine (impl_Decimal.calls v t _ (Door.go HT.out HB.out) D.out).mono ?_; rintro e w2 ⟨rfl, hb⟩; have H2 := Aside0.mk (HB.out.trans (hb.mono HB.out.size)); clear hb HB; have HB := H2; clear H2))
          go_ret2
          exact ⟨rfl, HB.out⟩
        · rw [if_neg h2] at h
          have h2b : decide (v > a2) = false := decide_eq_false h2
          have h2c : decide (a2 < v) = false := decide_eq_false h2
          clear h2
          by_cases h3 : t.toList = a0.toList
          · rw [if_pos h3] at h
            have h3b : (t.toList == a0.toList) = true := beq_iff_eq.mpr h3
            have h3c : (t.toList != a0.toList) = false := bne_eq_false_iff_eq.mpr h3
            clear h3
            simp only [Option.some.injEq, Prod.mk.injEq] at h
            obtain ⟨rfl, rfl⟩ := h
            go_enter Tryd.func23, Tryd.ntmps23
            go_wp2_with (first | (go_at_call 37; refine C.out.mono ?_; rintro e w1 ⟨rfl, hb⟩; have H2 := Aside0.mk (HB.out.trans hb); clear hb HB; have HB := H2; clear H2) | (go_at_call 28; refine (impl_Decimal.calls v t _ (Door.go HT.out HB.out) D.out).mono ?_; rintro e w2 ⟨rfl, hb⟩; have H2 := Aside0.mk (HB.out.trans (hb.mono HB.out.size)); clear hb HB; have HB := H2; clear H2))
            go_ret2
            exact ⟨rfl, HB.out⟩
          · rw [if_neg h3] at h
            have h3b : (t.toList == a0.toList) = false := beq_eq_false_iff_ne.mpr h3
            have h3c : (t.toList != a0.toList) = true := bne_iff_ne.mpr h3
            clear h3
            simp only [Option.some.injEq, Prod.mk.injEq] at h
            obtain ⟨rfl, rfl⟩ := h
            go_enter Tryd.func23, Tryd.ntmps23
            go_wp2_with (first | (go_at_call 37; refine C.out.mono ?_; rintro e w1 ⟨rfl, hb⟩; have H2 := Aside0.mk (HB.out.trans hb); clear hb HB; have HB := H2; clear H2) | (go_at_call 28; refine (impl_Decimal.calls v t _ (Door.go HT.out HB.out) D.out).mono ?_; rintro e w2 ⟨rfl, hb⟩; have H2 := Aside0.mk (HB.out.trans (hb.mono HB.out.size)); clear hb HB; have HB := H2; clear H2))
            go_ret2
            exact ⟨rfl, HB.out⟩
    all_goals
      have C := Aside0.mk (c2 (by rw [hA]; intro v e; cases e))
      rw [hA] at h
      replace h : some ((0 : Int), false) = some (r1, r2) := h
      simp only [Option.some.injEq, Prod.mk.injEq] at h
      obtain ⟨rfl, rfl⟩ := h
      clear c1 c2 hA hs
      go_enter Tryd.func23, Tryd.ntmps23
      go_wp2_with (go_at_call 37; refine C.out.mono ?_; rintro e w1 ⟨n1, t1, N1, rfl, hb⟩; have H2 := Aside0.mk (HB.out.trans hb); clear hb HB; have HB := H2; clear H2)
      go_ret2
      exact ⟨rfl, HB.out⟩
  · rw [if_neg hs] at h; cases h


/-! ### impl_ReadDecimal: function 30 -/
def impl_ReadDecimal.f (a0 : ByteArray) : Option (Int × Bool) := (impl_signed.f a0 0 1000000000).bind fun bt176 => (some (bt176.1, bt176.2))
set_option maxHeartbeats 8000000 in
set_option maxRecDepth 100000 in
theorem impl_ReadDecimal.calls (a0 : ByteArray) (r1 : Int) (r2 : Bool) (w : World) (ht : Go.Proofs.YtaddjeoncbmohaaDoor.MyDoor.Door true w) (h : impl_ReadDecimal.f a0 = some (r1, r2)) :
    Calls Tryd.prog 30 #[.string a0] w fun e w' => e = .returned (.tuple #[.int .i64 r1, .bool r2]) ∧ Below w.heap.size w w' := by
  have HB := Aside0.mk (Below.refl w.heap.size w)
  have HT := Aside0.mk ht
  clear ht
  have H : ((impl_signed.f a0 0 1000000000).bind fun bt176 => (some (bt176.1, bt176.2))) = some (r1, r2) := h
  clear h
  replace H := Option.bind_eq_some_iff.mp H
  obtain ⟨⟨t176, t177⟩, A20, H⟩ := H
  replace H : (some (t176, t177)) = some (r1, r2) := H
  have A2 := Aside0.mk A20
  clear A20
  simp only [Option.some.injEq, Prod.mk.injEq] at H
  obtain ⟨rfl, rfl⟩ := H
  go_enter Tryd.func30, Tryd.ntmps30
  go_wp2_with (first | ((with_reducible refine gate_callee (f := 23) rfl ?_); refine goesL_ (some 5) rfl rfl Tryd.func23 (by kernel_rfl) rfl #[.string a0, .int .i64 0, .int .i64 1000000000] rfl (by (try simp only [List.map_toArray, List.map_cons, List.map_nil]); first | done | rfl | (simp only [List.length_drop, List.length_take]; rfl)) ?_; (with_reducible refine (impl_signed.calls a0 0 1000000000 t176 t177 _ ?side1 A2.out).mono ?_); (case side1 => exact Go.Proofs.YtaddjeoncbmohaaDoor.MyDoor.Door.go HT.out (by repeat (first | (with_reducible first | exact HB.out | apply below_alloc | apply pw_below_drewN | apply below_drew1) | exact HB.out))); rintro e w3 ⟨rfl, hb⟩; refine ⟨_, rfl, ?_⟩; have n0_ := Aside0.mk (below_step (by repeat (first | (with_reducible first | exact HB.out | apply below_alloc | apply pw_below_drewN | apply below_drew1) | exact HB.out)) hb); clear HB; have HB := n0_; clear n0_; (try clear hb); (try clear hb2); (try clear hk); (try clear hi)))
  go_ret2
  exact ⟨by first | rfl | (simp [errW_none, errW_some] <;> rfl) | (simp [*, errW_none, errW_some] <;> rfl), by repeat (first | (with_reducible first | exact HB.out | apply below_alloc | apply pw_below_drewN | apply below_drew1) | exact HB.out)⟩

end Go.Proofs.YtaddjeoncbmohaaDoor.MFnCmds
