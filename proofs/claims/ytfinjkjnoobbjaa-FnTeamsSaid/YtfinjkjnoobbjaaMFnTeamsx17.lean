/- Made by a program of this session (out of the kit's print, with hand-made contracts): what each Go function that the law reaches computes, and that the machine's call does so. -/
import Derived.Test.YtfinjkjnoobbjaaMFnTeamsx0
import Derived.Test.YtfinjkjnoobbjaaMFnTeamsx10
namespace Go.Proofs.Ytfinjkjnoobbjaa.MFnTeams
open Go.RowKit Go.Proofs.YtfinjkjnoobbjaaW.PrintWords Go.Proofs.YtfinjkjnoobbjaaW.PrintLast Go.Proofs.YtfinjkjnoobbjaaW.PrintMore
attribute [local go_sem] max2_int min2_int max_two min_two max_three min_three max_four min_four   -- for this text's walks alone
set_option linter.unusedVariables false
set_option linter.unusedSimpArgs false

/-! ### impl_ordered: function 87 -/
def impl_ordered.f (l0 : List Int) : Option (List Int) := if l0.length < 4611686018427387904 then some (Lib.compact (l0.mergeSort fun x y => decide (x ≤ y))) else none
section
open Go.Shelf
def impl_ordered.laysSort_ren : Go.Shelf.Ren := ⟨fun | 189 => 126 | 125 => 159 | 257 => 158 | 128 => 175 | 129 => 176 | 294 => 166 | 295 => 167 | 296 => 168 | 297 => 169 | 298 => 170 | 299 => 171 | 216 => 172 | 300 => 173 | 301 => 174 | 328 => 177 | 329 => 178 | 330 => 179 | 331 => 180 | 332 => 181 | 215 => 182 | 343 => 183 | n => n, fun | 28 => 31 | 3 => 3 | 46 => 194 | 0 => 0 | 51 => 211 | 53 => 213 | 4 => 4 | 183 => 203 | 182 => 202 | 131 => 208 | 5 => 5 | 9 => 9 | 218 => 214 | 222 => 218 | 228 => 220 | 229 => 198 | n => n, fun | n => n⟩
theorem impl_ordered.laysSort : Go.Proofs.Lays.n189 Try.prog impl_ordered.laysSort_ren := {
  mixed := by kernel_rfl
  f125 := Try.func159.trans (congrArg some (by kernel_rfl))
  f128 := Try.func175.trans (congrArg some (by kernel_rfl))
  f129 := Try.func176.trans (congrArg some (by kernel_rfl))
  f189 := Try.func126.trans (congrArg some (by kernel_rfl))
  f215 := Try.func182.trans (congrArg some (by kernel_rfl))
  f216 := Try.func172.trans (congrArg some (by kernel_rfl))
  f257 := Try.func158.trans (congrArg some (by kernel_rfl))
  f294 := Try.func166.trans (congrArg some (by kernel_rfl))
  f295 := Try.func167.trans (congrArg some (by kernel_rfl))
  f296 := Try.func168.trans (congrArg some (by kernel_rfl))
  f297 := Try.func169.trans (congrArg some (by kernel_rfl))
  f298 := Try.func170.trans (congrArg some (by kernel_rfl))
  f299 := Try.func171.trans (congrArg some (by kernel_rfl))
  f300 := Try.func173.trans (congrArg some (by kernel_rfl))
  f301 := Try.func174.trans (congrArg some (by kernel_rfl))
  f328 := Try.func177.trans (congrArg some (by kernel_rfl))
  f329 := Try.func178.trans (congrArg some (by kernel_rfl))
  f330 := Try.func179.trans (congrArg some (by kernel_rfl))
  f331 := Try.func180.trans (congrArg some (by kernel_rfl))
  f332 := Try.func181.trans (congrArg some (by kernel_rfl))
  f343 := Try.func183.trans (congrArg some (by kernel_rfl))
  t0 := Try.underlying0
  a0 := Try.isAgg0
  z0 := Try.sizeOf0
  v0 := Try.zeroValue0
  t3 := Try.underlying3
  a3 := Try.isAgg3
  z3 := Try.sizeOf3
  v3 := Try.zeroValue3
  t4 := Try.underlying4
  a4 := Try.isAgg4
  z4 := Try.sizeOf4
  v4 := Try.zeroValue4
  t5 := Try.underlying5
  a5 := Try.isAgg5
  z5 := Try.sizeOf5
  v5 := Try.zeroValue5
  t9 := Try.underlying9
  a9 := Try.isAgg9
  z9 := Try.sizeOf9
  v9 := Try.zeroValue9
  t28 := Try.underlying31
  a28 := Try.isAgg31
  z28 := Try.sizeOf31
  v28 := Try.zeroValue31
  t46 := Try.underlying194
  a46 := Try.isAgg194
  z46 := Try.sizeOf194
  v46 := Try.zeroValue194
  t51 := Try.underlying211
  a51 := Try.isAgg211
  z51 := Try.sizeOf211
  v51 := Try.zeroValue211
  t53 := Try.underlying213
  a53 := Try.isAgg213
  z53 := Try.sizeOf213
  v53 := Try.zeroValue213
  t131 := Try.underlying208
  a131 := Try.isAgg208
  z131 := Try.sizeOf208
  v131 := Try.zeroValue208
  t182 := Try.underlying202
  a182 := Try.isAgg202
  z182 := Try.sizeOf202
  v182 := Try.zeroValue202
  t183 := Try.underlying203
  a183 := Try.isAgg203
  z183 := Try.sizeOf203
  v183 := Try.zeroValue203
  t218 := Try.underlying214
  a218 := Try.isAgg214
  z218 := Try.sizeOf214
  v218 := Try.zeroValue214
  t222 := Try.underlying218
  a222 := Try.isAgg218
  z222 := Try.sizeOf218
  v222 := Try.zeroValue218
  t228 := Try.underlying220
  a228 := Try.isAgg220
  z228 := Try.sizeOf220
  v228 := Try.zeroValue220
  t229 := Try.underlying198
  a229 := Try.isAgg198
  z229 := Try.sizeOf198
  v229 := Try.zeroValue198 }
end
section
open Go.Shelf
def impl_ordered.laysCompact_ren : Go.Shelf.Ren := ⟨fun | 20 => 127 | n => n, fun | 22 => 31 | 3 => 3 | 4 => 4 | 0 => 0 | n => n, fun | n => n⟩
theorem impl_ordered.laysCompact : Go.Proofs.Lays2.n20 Try.prog impl_ordered.laysCompact_ren := {
  mixed := by kernel_rfl
  f20 := Try.func127.trans (congrArg some (by kernel_rfl))
  t0 := Try.underlying0
  a0 := Try.isAgg0
  z0 := Try.sizeOf0
  v0 := Try.zeroValue0
  t3 := Try.underlying3
  a3 := Try.isAgg3
  z3 := Try.sizeOf3
  v3 := Try.zeroValue3
  t4 := Try.underlying4
  a4 := Try.isAgg4
  z4 := Try.sizeOf4
  v4 := Try.zeroValue4
  t22 := Try.underlying31
  a22 := Try.isAgg31
  z22 := Try.sizeOf31
  v22 := Try.zeroValue31
  i3 := by kernel_rfl }
end
open Go.Proofs.Ytfinjkjnoobbjaa.MyOrd Go.Sort Go.Lib in
set_option maxHeartbeats 4000000 in
theorem impl_ordered.calls (P0_ : Nat → Prop) (u9000_ : Value) (l0 : List Int) (r : List Int) (w0 w : World) (hB : Below w0.heap.size w0 w) (ho0 : Kd.R (Kd.int .i64) 3 w w0.heap.size P0_ u9000_ l0) (h : impl_ordered.f l0 = some r) :
    Calls Try.prog 87 #[u9000_] w fun e w' => ∃ v0_, e = .returned v0_ ∧ Kd.R (Kd.int .i64) 3 w' w0.heap.size (fun k_ => (P0_ k_ ∨ w.heap.size ≤ k_)) v0_ r ∧ Below w0.heap.size w0 w' ∧ Kept w w' (fun k_ => P0_ k_) := by
  have hz2 : l0.length < 4611686018427387904 := by
    unfold impl_ordered.f at h
    split at h
    · assumption
    · exact absurd h (by simp)
  have h := (if_pos hz2).symm.trans h
  obtain rfl := Option.some.inj h
  rcases rowAt_of_R ho0 with ⟨rfl, rfl⟩ | ⟨g, cap, rfl, hg, hok, hm, hrow⟩
  · have hS := Any.slices_Sort_int_none impl_ordered.laysSort none 0 w
    have hC := Any.slices_Compact_int_empty impl_ordered.laysCompact none 0 w
    change Calls Try.prog 126 _ _ _ at hS
    change Calls Try.prog 127 _ _ _ at hC
    have HB := Aside0.mk hB
    have HO := Aside0.mk ho0
    clear hB ho0 h
    go_enter Try.func87, Try.ntmps87
    go_wp2_with (first | (go_at_call 126; refine hS.mono ?_; rintro e w' ⟨rfl, rfl⟩) | (go_at_call 127; refine hC.mono ?_; rintro e w' ⟨rfl, rfl⟩))
    go_ret
    refine ⟨_, rfl, ?_, HB.out, Kept.refl _ _⟩
    have e0 : Lib.compact (([] : List Int).mergeSort fun x y => decide (x ≤ y)) = [] := by simp [Lib.compact, Lib.compactUpTo]
    rw [e0]
    exact Kd.R_mono HO.out (fun k hk => .inl hk)
  · have hS := Any.slices_Sort_int impl_ordered.laysSort g 0 cap l0 w hrow.holds hrow.lt hz2
    obtain ⟨s, hs⟩ : ∃ s, s = l0.mergeSort fun x y => decide (x ≤ y) := ⟨_, rfl⟩
    have hsl : s.length = l0.length := by rw [hs, List.length_mergeSort]
    have hlc : l0.length ≤ cap := by obtain ⟨_, _, _, hl, _⟩ := hrow; exact hl
    rw [← hs] at hS ⊢
    have hrow1 : ∀ n os, RowAt (grow (putRow (Value.int .i64) (Sort.ahead w n) g 0 s.toArray) os) g cap s := fun n os => (hrow.put n s (by omega)).grow os
    have hC := fun n os => Any.slices_Compact_int impl_ordered.laysCompact g 0 cap s (grow (putRow (Value.int .i64) (Sort.ahead w n) g 0 s.toArray) os) (hrow1 n os).holds (by omega) (by omega)
    have hcl := Lib.compact_length_le s
    have hb1 : ∀ n os, Below w0.heap.size w0 (grow (putRow (Value.int .i64) (Sort.ahead w n) g 0 s.toArray) os) := fun n os => below_growO (below_put hB n g _ hg) (by rw [size_putRow]; exact hB.size) os
    have hk1 : ∀ n os, Kept w (grow (putRow (Value.int .i64) (Sort.ahead w n) g 0 s.toArray) os) (fun k_ => P0_ k_) := fun n os => kept_growO (kept_put (Kept.refl w _) n g _ hok) os
    change Calls Try.prog 126 _ _ _ at hS
    change ∀ n os, Calls Try.prog 127 _ _ _ at hC
    rw [← hsl] at hS
    have FIN : Aside0 (∀ n os q, (Kd.R (Kd.int .i64) 3 (putRow (Value.int .i64) (Sort.ahead (grow (putRow (Value.int .i64) (Sort.ahead w n) g 0 s.toArray) os) q) g 0 (Lib.compact s ++ List.replicate (s.length - (Lib.compact s).length) 0).toArray) w0.heap.size (fun k_ => (P0_ k_ ∨ w.heap.size ≤ k_)) (.slice (some ⟨g, 0, none⟩) (Lib.compact s).length cap) (Lib.compact s)) ∧ Below w0.heap.size w0 (putRow (Value.int .i64) (Sort.ahead (grow (putRow (Value.int .i64) (Sort.ahead w n) g 0 s.toArray) os) q) g 0 (Lib.compact s ++ List.replicate (s.length - (Lib.compact s).length) 0).toArray) ∧ Kept w (putRow (Value.int .i64) (Sort.ahead (grow (putRow (Value.int .i64) (Sort.ahead w n) g 0 s.toArray) os) q) g 0 (Lib.compact s ++ List.replicate (s.length - (Lib.compact s).length) 0).toArray) (fun k_ => P0_ k_)) :=
      ⟨fun n os q => ⟨R_of_rowAt ((hrow1 n os).put q _ (by rw [List.length_append, List.length_replicate]; omega)).front hg (.inl hok) hm, below_put (hb1 n os) q g _ hg, kept_put (hk1 n os) q g _ hok⟩⟩
    clear hrow1 hb1 hk1 hrow hB ho0 h hs hok hcl hm hg
    rw [← hsl]
    clear hsl hlc hz2
    have HS := Aside0.mk hS
    have HC := Aside0.mk hC
    clear hS hC
    generalize Lib.compact s = c at HC FIN ⊢
    go_enter Try.func87, Try.ntmps87
    go_wp2_with (first | (go_at_call 126; refine HS.out.mono ?_; rintro e w1 ⟨rfl, n, os, hw1⟩; have HC1 := Aside0.mk (HC.out n os); have F1 := Aside0.mk (FIN.out n os); rw [← hw1] at HC1 F1; clear hw1 HC FIN HS) | (go_at_call 127; refine HC1.out.mono ?_; rintro e w2 ⟨rfl, q, hw2⟩; have F2 := Aside0.mk (F1.out q); rw [← hw2] at F2; clear hw2 F1 HC1))
    go_ret
    exact ⟨_, rfl, F2.out⟩


-- NOT PRINTED: function 97 (slices_DeleteFunc_int_int)

/-! ### impl_HeldBy_1: function 98 -/
def impl_HeldBy_1.f (l0 : List Int) : Option (List Int) := some (l0.filter fun x => !decide (x < 0))
section
open Go.Shelf
def impl_HeldBy_1.laid_ren : Go.Shelf.Ren := ⟨fun | 10 => 97 | 6 => 136 | n => n, fun | 22 => 31 | 23 => 3 | 25 => 137 | 3 => 3 | 4 => 4 | 0 => 0 | n => n, fun | n => n⟩
theorem impl_HeldBy_1.laid : Go.Proofs.SlLaysH.n10 Try.prog impl_HeldBy_1.laid_ren := {
  mixed := by kernel_rfl
  f6 := ⟨Try.f136.name, by decide, Try.func136.trans (congrArg some (by kernel_rfl))⟩
  f10 := ⟨Try.f97.name, by decide, Try.func97.trans (congrArg some (by kernel_rfl))⟩
  t0 := Try.underlying0
  a0 := Try.isAgg0
  z0 := Try.sizeOf0
  v0 := Try.zeroValue0
  t3 := Try.underlying3
  a3 := Try.isAgg3
  z3 := Try.sizeOf3
  v3 := Try.zeroValue3
  t4 := Try.underlying4
  a4 := Try.isAgg4
  z4 := Try.sizeOf4
  v4 := Try.zeroValue4
  t22 := Try.underlying31
  a22 := Try.isAgg31
  z22 := Try.sizeOf31
  v22 := Try.zeroValue31
  a23 := Try.isAgg3
  z23 := Try.sizeOf3
  t25 := Try.underlying137
  a25 := Try.isAgg137
  z25 := Try.sizeOf137
  v25 := Try.zeroValue137 }
end
open Go.Shelf Go.RowKit Go.Lib Go.Sort in
theorem impl_HeldBy_1.gives (x : Int) (W : World) : FnGives Try.prog 98 #[] #[.int .i64 x] (.bool (decide (x < 0))) W := by
  show Calls Try.prog 98 #[.int .i64 x] W _
  go_enter Try.func98, Try.ntmps98
  go_wp2
  all_goals (go_ret; exact ⟨by simp_all, 0, rfl⟩)
open Go.Proofs.Ytfinjkjnoobbjaa.MyOrd Go.Sort Go.Lib Go.Shelf in
set_option maxHeartbeats 4000000 in
theorem impl_HeldBy_1.calls (P0_ : Nat → Prop) (u9000_ : Value) (l0 : List Int) (r : List Int) (w0 w : World) (hB : Below w0.heap.size w0 w) (ho0 : Kd.R (Kd.int .i64) 3 w w0.heap.size P0_ u9000_ l0) (h : impl_HeldBy_1.f l0 = some r) :
    Calls Try.prog 97 #[u9000_, .func (.func 98) #[] #[]] w fun e w' => ∃ v0_, e = .returned v0_ ∧ Kd.R (Kd.int .i64) 3 w' w0.heap.size (fun k_ => (P0_ k_ ∨ w.heap.size ≤ k_)) v0_ r ∧ Below w0.heap.size w0 w' ∧ Kept w w' (fun k_ => P0_ k_) := by
  obtain rfl := Option.some.inj h
  have eg : ∀ args w, (callFunc 98 args).run Try.prog w = .ok (.enter 98 args) w := enters_of Try.func98 (by kernel_rfl) rfl
  rcases rowAt_of_R ho0 with ⟨rfl, rfl⟩ | ⟨g, cap, rfl, hg, hok, hm, hrow⟩
  · have hI := AnyE.slices_IndexFunc_empty { impl_HeldBy_1.laid with } none 0 (.func (.func 98) #[] #[]) w
    change Calls Try.prog 136 _ _ _ at hI
    have HB := Aside0.mk hB
    have HO := Aside0.mk ho0
    clear hB ho0 h
    go_enter Try.func97, Try.ntmps97
    go_wp2_with (go_at_call 136; refine hI.mono ?_; rintro e w' ⟨rfl, rfl⟩)
    go_ret
    exact ⟨_, rfl, Kd.R_mono HO.out (fun k hk => .inl hk), HB.out, Kept.refl _ _⟩
  · have hsz : l0.length ≤ cap := by obtain ⟨_, _, _, hl, _⟩ := hrow; exact hl
    have hmx : maxLen ≤ 9223372036854775807 := by unfold maxLen; decide
    have hD := AnyE.slices_DeleteFunc impl_HeldBy_1.laid (Value.int .i64) (fun _ => rfl) (fun x => decide (x < 0)) 98 #[] eg 0 Try.zeroValue3 g 0 cap l0.toArray w (fun W x _ => impl_HeldBy_1.gives x W) (fun n os dk x _ => impl_HeldBy_1.gives x _) hrow.holds (by simp; omega) (by simpa using hsz)
    change Calls Try.prog 97 _ _ _ at hD
    have hl : (l0.filter fun x => !decide (x < 0)).length ≤ l0.length := List.length_filter_le _ _
    simp only [List.size_toArray] at hD
    refine hD.mono ?_
    rintro e w' ⟨rfl, q, rfl⟩
    exact ⟨_, rfl, R_of_rowAt (hrow.put q _ (by simp; omega)).front hg (.inl hok) hm, below_put hB q g _ hg, kept_put (Kept.refl w _) q g _ hok⟩


/-! ### impl_HeldBy: function 38 -/
def impl_HeldBy.l0 : Nat → Bool → List Int → List (S84) → Int → Int → Option (List Int)
  | 0, _, _, _, _, _ => none
  | k + 1, x1, x5, x8, x9, x10 => if x10 < x9 then (if 0 ≤ x10 then (if x10 < (x8.length : Int) then (if (((rd_T84 x8 x10).f3) == x1) = true then ((impl_heldBy.f ((rd_T84 x8 x10).f0) ((rd_T84 x8 x10).f1) ((rd_T84 x8 x10).f2) ((rd_T84 x8 x10).f3)).bind fun t344 => (if x5.length + t344.length < 17592186044416 then (impl_HeldBy.l0 k x1 (x5 ++ t344) x8 x9 (wrap64 (x10 + 1))) else (none))) else (impl_HeldBy.l0 k x1 x5 x8 x9 (wrap64 (x10 + 1)))) else (none)) else (none)) else ((impl_HeldBy_1.f x5).bind fun t350 => ((impl_ordered.f t350).bind fun t353 => (some t353)))
def impl_HeldBy.f (k : Nat) (l0 : List (S84)) (a1 : Bool) : Option (List Int) := impl_HeldBy.l0 k a1 ([] : List Int) l0 (l0.length : Int) 0
theorem impl_HeldBy.mono_l : ∀ k, (∀ y0 y1 y2 y3 y4, LeO (impl_HeldBy.l0 k y0 y1 y2 y3 y4) (impl_HeldBy.l0 (k + 1) y0 y1 y2 y3 y4))
  | 0 => fun _ _ _ _ _ r h => by simp [impl_HeldBy.l0] at h
  | k + 1 => by
    have ih0 := impl_HeldBy.mono_l k
    · intro y0 y1 y2 y3 y4
      unfold impl_HeldBy.l0
      repeat' first
      | (with_reducible exact ih0 _ _ _ _ _)
      | (with_reducible exact LeO.refl _)
      | (with_reducible exact LeO.none _)
      | (with_reducible refine LeO.ite ?_ ?_)
      | (with_reducible refine LeO.bind ?_ (fun _ => ?_))
      | exact ih0 _ _ _ _ _
      | exact LeO.none _
      | refine LeO.ite ?_ ?_
      | refine LeO.bind ?_ (fun _ => ?_)
theorem impl_HeldBy.mono : ∀ a0 a1 k, LeO (impl_HeldBy.f k a0 a1) (impl_HeldBy.f (k + 1) a0 a1) := by
  intro a0 a1 k
  have ih0 := impl_HeldBy.mono_l k
  unfold impl_HeldBy.f
  repeat' first
      | (with_reducible exact ih0 _ _ _ _ _)
      | (with_reducible exact LeO.refl _)
      | (with_reducible exact LeO.none _)
      | (with_reducible refine LeO.ite ?_ ?_)
      | (with_reducible refine LeO.bind ?_ (fun _ => ?_))
      | exact ih0 _ _ _ _ _
      | exact LeO.none _
      | refine LeO.ite ?_ ?_
      | refine LeO.bind ?_ (fun _ => ?_)
set_option maxHeartbeats 8000000 in
set_option maxRecDepth 100000 in
theorem impl_HeldBy.calls (k : Nat) (A0 : Option Addr) (c0 : Nat) (l0 : List (S84)) (a1 : Bool) (r : List Int) (w : World) (hr0 : Kd.C k84 w A0 l0.length l0) (hc0 : l0.length ≤ c0) (h : impl_HeldBy.f k l0 a1 = some r) :
    Calls Try.prog 38 #[.slice A0 l0.length c0, .bool a1] w fun e w' => ∃ v0_ : Value, e = .returned (v0_) ∧ Kd.R (Kd.int .i64) 3 w' w.heap.size (fun _ => True) v0_ r ∧ Below w.heap.size w w' := by
  have hu84 := Try.underlying84
  have HR0 := Aside0.mk hr0
  have HC0 := Aside0.mk hc0
  clear hr0 hc0
  have HB := Aside0.mk (Below.refl w.heap.size w)
  have H : (impl_HeldBy.l0 k a1 ([] : List Int) l0 (l0.length : Int) 0) = some r := h
  clear h
  have H' := Aside0.mk H
  clear H
  go_enter Try.func38, Try.ntmps38
  go_wp2
  go_loopg [5, 10] k (fun kq v5 v10 w' => ∃ (x5_1 : List Int) (x10_1 : Int), v10 = .int .i64 x10_1 ∧ Aside0 (impl_HeldBy.l0 kq a1 x5_1 l0 (l0.length : Int) x10_1 = some r) ∧ Aside0 (kq ≤ k) ∧ Aside0 (Kd.R (Kd.int .i64) 3 w' w.heap.size (fun _ => True) v5 x5_1) ∧ Aside0 (Below w.heap.size w w'))
  case atStart => exact ⟨(([] : List Int)), (0), (by first | rfl | (simp; done) | (simp [*]; done)), H', ⟨Nat.le_refl _⟩, ⟨by first | exact Kd.R_nil _ _ _ _ _ | exact Kd.N_nil _ _ _ _ _ | exact Kd.V_nil _ _ _ _ _ | exact Kd.Q_nil _ _ _ _ _ | exact Kd.S_nil _ _ _ _ _⟩, ⟨by repeat (first | (with_reducible first | exact HB.out | apply wa | apply wN | apply wd) | exact HB.out)⟩⟩
  case round =>
    clear H'
    try clear p2
    obtain ⟨x5_1, x10_1, rfl, HA, HK1, HO_5, HB⟩ := hrel
    cases gk with
    | zero => exact absurd HA.out (by simp [impl_HeldBy.l0])
    | succ k1 =>
      have H := HA.out
      clear HA
      simp only [impl_HeldBy.l0] at H
      by_cases c3 : x10_1 < (l0.length : Int)
      rotate_left
      · rw [if_neg c3] at H
        have c3b0 : decide (x10_1 < (l0.length : Int)) = false := decide_eq_false c3
        clear c3
        replace H := Option.bind_eq_some_iff.mp H
        obtain ⟨t350, A160, H⟩ := H
        replace H : ((impl_ordered.f t350).bind fun t353 => (some t353)) = some r := H
        have A16 := Aside0.mk A160
        clear A160
        replace H := Option.bind_eq_some_iff.mp H
        obtain ⟨t353, A170, H⟩ := H
        replace H : (some t353) = some r := H
        have A17 := Aside0.mk A170
        clear A170
        obtain rfl := Option.some.inj H
        obtain ⟨Ao18, co18, eo18⟩ := Kd.R_slice HO_5.out
        subst eo18
        go_wp2_with (first | ((with_reducible refine gate_callee (f := 97) rfl ?_); refine goesL_ (some 24) rfl rfl Try.func97 (by kernel_rfl) rfl #[.slice Ao18 x5_1.length co18, .func (.func 98) #[] #[]] rfl (by (try simp only [List.map_toArray, List.map_cons, List.map_nil]); first | done | rfl | (simp only [List.length_drop, List.length_take]; rfl)) ?_; (with_reducible refine (impl_HeldBy_1.calls (fun k_ => some k_ = (.slice Ao18 x5_1.length co18 : Value).ownBlock) (.slice Ao18 x5_1.length co18) x5_1 t350 w _ ?side1 ?side2 A16.out).mono ?_); (case side1 => repeat (first | (with_reducible first | exact HB.out | apply wa | apply wN | apply wd) | exact HB.out)); (case side2 => exact Kd.R_tight rfl HO_5.out); rintro e w19 ⟨v351, rfl, ho0, hb, hkp⟩; refine ⟨_, rfl, ?_⟩; have n0_ := Aside0.mk (Kd.R_mono (ok' := fun k_ => True) ho0 (fun k_ hk_ => trivial)); have n1_ := Aside0.mk (hb); clear HB; clear HO_5; have HO352 := n0_; have HB := n1_; clear n0_ n1_; (try clear hb); (try clear hkp); (try clear ho0); obtain ⟨Ao20, co20, eo20⟩ := Kd.R_slice HO352.out; subst eo20) | ((with_reducible refine gate_callee (f := 87) rfl ?_); refine goesL_ (some 25) rfl rfl Try.func87 (by kernel_rfl) rfl #[.slice Ao20 t350.length co20] rfl (by (try simp only [List.map_toArray, List.map_cons, List.map_nil]); first | done | rfl | (simp only [List.length_drop, List.length_take]; rfl)) ?_; (with_reducible refine (impl_ordered.calls (fun k_ => some k_ = (.slice Ao20 t350.length co20 : Value).ownBlock) (.slice Ao20 t350.length co20) t350 t353 w _ ?side1 ?side2 A17.out).mono ?_); (case side1 => repeat (first | (with_reducible first | exact HB.out | apply wa | apply wN | apply wd) | exact HB.out)); (case side2 => exact Kd.R_tight rfl HO352.out); rintro e w21 ⟨v354, rfl, ho0, hb, hkp⟩; refine ⟨_, rfl, ?_⟩; have n0_ := Aside0.mk (Kd.R_mono (ok' := fun k_ => True) ho0 (fun k_ hk_ => trivial)); have n1_ := Aside0.mk (hb); clear HB; clear HO352; have HO355 := n0_; have HB := n1_; clear n0_ n1_; (try clear hb); (try clear hkp); (try clear ho0)))
        go_ret
        exact ⟨_, by first | rfl | (simp [errW_none, errW_some] <;> rfl) | (simp [*, errW_none, errW_some] <;> rfl), by (with_reducible repeat (first | apply Kd.Ra | apply Kd.Rn | apply Kd.Rd)); exact HO355.out, by repeat (first | (with_reducible first | exact HB.out | apply wa | apply wN | apply wd) | exact HB.out)⟩
      rw [if_pos c3] at H
      have c3b0 : decide (x10_1 < (l0.length : Int)) = true := decide_eq_true c3
      clear c3
      by_cases c4 : 0 ≤ x10_1
      rotate_left
      · rw [if_neg c4] at H
        exact absurd H (by simp)
      rw [if_pos c4] at H
      have c4b0 : decide (0 ≤ x10_1) = true := decide_eq_true c4
      clear c4
      by_cases c5 : x10_1 < (l0.length : Int)
      rotate_left
      · rw [if_neg c5] at H
        exact absurd H (by simp)
      rw [if_pos c5] at H
      have c5b0 : decide (x10_1 < (l0.length : Int)) = true := decide_eq_true c5
      clear c5
      by_cases c6 : (((rd_T84 l0 x10_1).f3) == a1) = true
      rotate_left
      · rw [if_neg c6] at H
        have c6b0 : (((rd_T84 l0 x10_1).f3) == a1) = false := by simpa using c6
        (try (have c6b1 : decide (((rd_T84 l0 x10_1).f3) = a1) = false := by simpa using c6))
        (try (have c6b2 : (((rd_T84 l0 x10_1).f3) == a1) = false := by simpa using c6))
        (try (have c6b3 : ¬ (((rd_T84 l0 x10_1).f3) = a1) := by simpa using c6))
        clear c6
        have H' := Aside0.mk H
        clear H
        have p342 : 0 ≤ (x10_1 : Int) := of_decide_eq_true (by first | (with_reducible assumption) | assumption)
        have q342 : x10_1 < (l0.length : Int) := of_decide_eq_true (by first | (with_reducible assumption) | assumption)
        obtain ⟨ad342, e342, hx342_0, hx342_1, hx342_2, hx342_3⟩ := at_T84 HR0.out x10_1 p342 q342
        cases e342
        replace hx342_0 := (HB.out.cell (World.block_lt_of_cell? w _ hx342_0)).trans hx342_0
        replace hx342_1 := (HB.out.cell (World.block_lt_of_cell? w _ hx342_1)).trans hx342_1
        replace hx342_2 := (HB.out.cell (World.block_lt_of_cell? w _ hx342_2)).trans hx342_2
        replace hx342_3 := (HB.out.cell (World.block_lt_of_cell? w _ hx342_3)).trans hx342_3
        replace p342 := eq_true p342
        replace q342 := eq_true q342
        go_wp2_with (first | ((with_reducible refine gate_dst (N := 7) rfl ?_); refine box_event ?hg (N := 7) ?hd (cs := #[.int .i64 0, .int .i64 0, .int .i64 0, .bool false]) (t := 84) ?hr ?_; (case hd => rfl); (case hg => rfl); (case hr => first | (go_simp; done) | (go_simp; rfl)); intro gb343 hg w14 hbox hb; have n0_ := Aside0.mk (Kd.Rb (by (with_reducible repeat (first | apply Kd.Ra | apply Kd.Rn | apply Kd.Rd)); exact HO_5.out) hb); have n1_ := Aside0.mk (below_step (by repeat (first | (with_reducible first | exact HB.out | apply wa | apply wN | apply wd) | exact HB.out)) hb); have n2_ := Aside0.mk (hbox); have n3_ := Aside0.mk ((by rw [hg]; exact (below_size (by repeat (first | (with_reducible first | exact HB.out | apply wa | apply wN | apply wd) | exact HB.out))) : w.heap.size ≤ gb343)); have n4_ := n3_; clear HO_5; clear HB; have HO_5 := n0_; have HB := n1_; have BK343 := n2_; have GW343 := n3_; have GE343 := n4_; clear n0_ n1_ n2_ n3_ n4_; clear hb hbox hg; have hcz15_0 : w14.cell? ⟨gb343, 0, none⟩ = some (.int .i64 0) := (bc BK343.out 0).trans rfl; have hcz15_1 : w14.cell? ⟨gb343, 1, none⟩ = some (.int .i64 0) := (bc BK343.out 1).trans rfl; have hcz15_2 : w14.cell? ⟨gb343, 2, none⟩ = some (.int .i64 0) := (bc BK343.out 2).trans rfl; have hcz15_3 : w14.cell? ⟨gb343, 3, none⟩ = some (.bool false) := (bc BK343.out 3).trans rfl; have hfz15_0 := bz BK343.out 0; have hfz15_1 := bz BK343.out 1; have hfz15_2 := bz BK343.out 2; have hfz15_3 := bz BK343.out 3))
        go_roundg k1
        case measure => have := HK1.out; omega
        case rel => exact ⟨(x5_1), (wrap64 (x10_1 + 1)), (by first | rfl | (simp; done) | (simp [*]; done)), H', ⟨by have := HK1.out; omega⟩, ⟨by (with_reducible repeat (first | apply Kd.Ra | apply Kd.Rn | apply Kd.Rd)); exact Kd.R_mono (Kd.Rf (p := ⟨gb343, 3, none⟩) (Kd.Rf (p := ⟨gb343, 2, none⟩) (Kd.Rf (p := ⟨gb343, 1, none⟩) (Kd.Rf (p := ⟨gb343, 0, none⟩) (Kd.R_types HO_5.out BK343.out (by decide)) (fun _ hk => hk.2) (.int .i64 ((rd_T84 l0 x10_1).f0))) (fun _ hk => hk.2) (.int .i64 ((rd_T84 l0 x10_1).f1))) (fun _ hk => hk.2) (.int .i64 ((rd_T84 l0 x10_1).f2))) (fun _ hk => hk.2) (.bool ((rd_T84 l0 x10_1).f3))) (fun _ hk => trivial)⟩, ⟨by repeat (first | (with_reducible first | exact HB.out | apply wa | apply wN | apply wd | refine ws ?_ GE343.out) | exact HB.out)⟩⟩
      rw [if_pos c6] at H
      have c6b0 : (((rd_T84 l0 x10_1).f3) == a1) = true := c6
      (try (have c6b1 : decide (((rd_T84 l0 x10_1).f3) = a1) = true := by simpa using c6))
      (try (have c6b2 : (((rd_T84 l0 x10_1).f3) == a1) = true := by simpa using c6))
      clear c6
      replace H := Option.bind_eq_some_iff.mp H
      obtain ⟨t344, A70, H⟩ := H
      replace H : (if x5_1.length + t344.length < 17592186044416 then (impl_HeldBy.l0 k1 a1 (x5_1 ++ t344) l0 (l0.length : Int) (wrap64 (x10_1 + 1))) else (none)) = some r := H
      have A7 := Aside0.mk A70
      clear A70
      by_cases c8 : x5_1.length + t344.length < 17592186044416
      rotate_left
      · rw [if_neg c8] at H
        exact absurd H (by simp)
      rw [if_pos c8] at H
      have LMc8 := Aside0.mk c8
      clear c8
      obtain ⟨y347, hy347⟩ : ∃ y_ : List Int, y_ = (x5_1 ++ t344) := ⟨_, rfl⟩
      replace H : (impl_HeldBy.l0 k1 a1 y347 l0 (l0.length : Int) (wrap64 (x10_1 + 1))) = some r := by first | (rw [hy347]; with_reducible exact H) | (have H2_ := (Option.bind_some _ _).symm.trans H; rw [hy347]; with_reducible exact H2_) | (have H2_ := (Option.bind_some _ _).symm.trans H; with_reducible exact H2_) | with_reducible exact H | (rw [hy347]; exact H) | exact H
      have Ny347 := Aside0.mk hy347
      clear hy347
      have H' := Aside0.mk H
      clear H
      have p342 : 0 ≤ (x10_1 : Int) := of_decide_eq_true (by first | (with_reducible assumption) | assumption)
      have q342 : x10_1 < (l0.length : Int) := of_decide_eq_true (by first | (with_reducible assumption) | assumption)
      obtain ⟨ad342, e342, hx342_0, hx342_1, hx342_2, hx342_3⟩ := at_T84 HR0.out x10_1 p342 q342
      cases e342
      replace hx342_0 := (HB.out.cell (World.block_lt_of_cell? w _ hx342_0)).trans hx342_0
      replace hx342_1 := (HB.out.cell (World.block_lt_of_cell? w _ hx342_1)).trans hx342_1
      replace hx342_2 := (HB.out.cell (World.block_lt_of_cell? w _ hx342_2)).trans hx342_2
      replace hx342_3 := (HB.out.cell (World.block_lt_of_cell? w _ hx342_3)).trans hx342_3
      replace p342 := eq_true p342
      replace q342 := eq_true q342
      go_wp2_with (first | ((with_reducible refine gate_dst (N := 7) rfl ?_); refine box_event ?hg (N := 7) ?hd (cs := #[.int .i64 0, .int .i64 0, .int .i64 0, .bool false]) (t := 84) ?hr ?_; (case hd => rfl); (case hg => rfl); (case hr => first | (go_simp; done) | (go_simp; rfl)); intro gb343 hg w9 hbox hb; have n0_ := Aside0.mk (Kd.Rb (by (with_reducible repeat (first | apply Kd.Ra | apply Kd.Rn | apply Kd.Rd)); exact HO_5.out) hb); have n1_ := Aside0.mk (below_step (by repeat (first | (with_reducible first | exact HB.out | apply wa | apply wN | apply wd) | exact HB.out)) hb); have n2_ := Aside0.mk (hbox); have n3_ := Aside0.mk ((by rw [hg]; exact (below_size (by repeat (first | (with_reducible first | exact HB.out | apply wa | apply wN | apply wd) | exact HB.out))) : w.heap.size ≤ gb343)); have n4_ := n3_; clear HO_5; clear HB; have HO_5 := n0_; have HB := n1_; have BK343 := n2_; have GW343 := n3_; have GE343 := n4_; clear n0_ n1_ n2_ n3_ n4_; clear hb hbox hg; have hcz10_0 : w9.cell? ⟨gb343, 0, none⟩ = some (.int .i64 0) := (bc BK343.out 0).trans rfl; have hcz10_1 : w9.cell? ⟨gb343, 1, none⟩ = some (.int .i64 0) := (bc BK343.out 1).trans rfl; have hcz10_2 : w9.cell? ⟨gb343, 2, none⟩ = some (.int .i64 0) := (bc BK343.out 2).trans rfl; have hcz10_3 : w9.cell? ⟨gb343, 3, none⟩ = some (.bool false) := (bc BK343.out 3).trans rfl; have hfz10_0 := bz BK343.out 0; have hfz10_1 := bz BK343.out 1; have hfz10_2 := bz BK343.out 2; have hfz10_3 := bz BK343.out 3) | ((with_reducible refine gate_callee (f := 96) rfl ?_); refine goesL_ (some 20) rfl rfl Try.func96 (by kernel_rfl) rfl #[.agg #[.int .i64 ((rd_T84 l0 x10_1).f0), .int .i64 ((rd_T84 l0 x10_1).f1), .int .i64 ((rd_T84 l0 x10_1).f2), .bool ((rd_T84 l0 x10_1).f3)]] rfl (by (try simp only [List.map_toArray, List.map_cons, List.map_nil]); first | done | rfl | (simp only [List.length_drop, List.length_take]; rfl)) ?_; (with_reducible refine (impl_heldBy.calls ((rd_T84 l0 x10_1).f0) ((rd_T84 l0 x10_1).f1) ((rd_T84 l0 x10_1).f2) ((rd_T84 l0 x10_1).f3) t344 _ A7.out).mono ?_); rintro e w11 ⟨v345, rfl, ho0, hb⟩; refine ⟨_, rfl, ?_⟩; have n0_ := Aside0.mk (Kd.R_elder' (by (with_reducible repeat (first | apply Kd.Ra | apply Kd.Rn | apply Kd.Rd)); exact (Kd.R_mono (Kd.Rf (p := ⟨gb343, 3, none⟩) (Kd.Rf (p := ⟨gb343, 2, none⟩) (Kd.Rf (p := ⟨gb343, 1, none⟩) (Kd.Rf (p := ⟨gb343, 0, none⟩) (Kd.R_types HO_5.out BK343.out (by decide)) (fun _ hk => hk.2) (.int .i64 ((rd_T84 l0 x10_1).f0))) (fun _ hk => hk.2) (.int .i64 ((rd_T84 l0 x10_1).f1))) (fun _ hk => hk.2) (.int .i64 ((rd_T84 l0 x10_1).f2))) (fun _ hk => hk.2) (.bool ((rd_T84 l0 x10_1).f3))) (fun _ h_ => h_.1))) (Kd.R_base ho0) hb); have n1_ := Aside0.mk (Kd.R_lower (Kd.R_new' ho0 (Kd.R_lt (by (with_reducible repeat (first | apply Kd.Ra | apply Kd.Rn | apply Kd.Rd)); exact (Kd.R_mono (Kd.Rf (p := ⟨gb343, 3, none⟩) (Kd.Rf (p := ⟨gb343, 2, none⟩) (Kd.Rf (p := ⟨gb343, 1, none⟩) (Kd.Rf (p := ⟨gb343, 0, none⟩) (Kd.R_types HO_5.out BK343.out (by decide)) (fun _ hk => hk.2) (.int .i64 ((rd_T84 l0 x10_1).f0))) (fun _ hk => hk.2) (.int .i64 ((rd_T84 l0 x10_1).f1))) (fun _ hk => hk.2) (.int .i64 ((rd_T84 l0 x10_1).f2))) (fun _ hk => hk.2) (.bool ((rd_T84 l0 x10_1).f3))) (fun _ h_ => h_.1))))) (below_size (by repeat (first | (with_reducible first | exact HB.out | apply wa | apply wN | apply wd | refine ws ?_ GE343.out) | exact HB.out)))); have n2_ := Aside0.mk (bb (g := gb343) (o := .cells #[.int .i64 ((rd_T84 l0 x10_1).f0), .int .i64 ((rd_T84 l0 x10_1).f1), .int .i64 ((rd_T84 l0 x10_1).f2), .bool ((rd_T84 l0 x10_1).f3)] 84 (0, 0)) (by (with_reducible repeat first | apply bN | apply bd | apply ba); refine blk_put (cs := #[.int .i64 ((rd_T84 l0 x10_1).f0), .int .i64 ((rd_T84 l0 x10_1).f1), .int .i64 ((rd_T84 l0 x10_1).f2), .bool false]) ?_ 3 _ rfl; (with_reducible repeat first | apply bN | apply bd | apply ba); refine blk_put (cs := #[.int .i64 ((rd_T84 l0 x10_1).f0), .int .i64 ((rd_T84 l0 x10_1).f1), .int .i64 0, .bool false]) ?_ 2 _ rfl; (with_reducible repeat first | apply bN | apply bd | apply ba); refine blk_put (cs := #[.int .i64 ((rd_T84 l0 x10_1).f0), .int .i64 0, .int .i64 0, .bool false]) ?_ 1 _ rfl; (with_reducible repeat first | apply bN | apply bd | apply ba); refine blk_put (cs := #[.int .i64 0, .int .i64 0, .int .i64 0, .bool false]) ?_ 0 _ rfl; (with_reducible repeat first | apply bN | apply bd | apply ba); exact BK343.out) hb); have n3_ := Aside0.mk (below_step (by repeat (first | (with_reducible first | exact HB.out | apply wa | apply wN | apply wd | refine ws ?_ GE343.out) | exact HB.out)) hb); clear HO_5; clear BK343; clear HB; have HO_5 := n0_; have HO346 := n1_; have BK343 := n2_; have HB := n3_; clear n0_ n1_ n2_ n3_; (try clear hb); (try clear hb2); (try clear hk); (try clear hi); (try clear ho0); obtain ⟨Ao13, co13, eo13⟩ := Kd.R_slice HO346.out; subst eo13) | ((with_reducible refine gate_builtin (b := .append) (xs := #[.tmp 18, .tmp 20]) rfl ?_); at_builtin; refine Kd.R_append_rows (Kd.int .i64) (w0 := w) w.heap.size rfl (.tmp 18) (.tmp 20) 31 3 (.int .i64 0) 8 rfl Try.underlying31 info3 rfl (by decide) (by omega) u5 x5_1 t344 _ _ _ (fun k_ => some k_ ≠ (.slice Ao13 t344.length co13 : Value).ownBlock) (fun _ => False) rfl rfl ?aO ?aR (fun _ _ h => h) (fun _ h => h.elim) ?aF ?aB ?aS ?aL ?_; (case aR => repeat (first | exact (Kd.R_reads' HO346.out).2.2 | (with_reducible refine Kd.Ca ?_ _) | (with_reducible refine Kd.Cn ?_ _) | (with_reducible refine Kd.Cd ?_))); (case aB => exact (by repeat (first | (with_reducible first | exact HB.out | apply wa | apply wN | apply wd | refine ws ?_ GE343.out) | exact HB.out))); (case aF => exact (fun k_ hk => Kd.fresh' (Kd.R_lt (by (with_reducible repeat (first | apply Kd.Ra | apply Kd.Rn | apply Kd.Rd)); exact HO346.out)) k_ hk)); (case aO => exact (by (with_reducible repeat (first | apply Kd.Ra | apply Kd.Rn | apply Kd.Rd)); exact Kd.R_mono HO_5.out (fun _ hk => hk.2))); (case aS => exact (below_size (by repeat (first | (with_reducible first | exact HB.out | apply wa | apply wN | apply wd | refine ws ?_ GE343.out) | exact HB.out)))); (case aL => have := LMc8.out; omega); intro v348 w12 ho hb hg hat; rw [← Ny347.out] at ho; have n0_ := Aside0.mk (blk_grown (g := gb343) (by (with_reducible repeat first | apply bN | apply bd | apply ba); exact BK343.out) hg (Kd.R_ne HO_5.out BK343.out (by decide))); have n1_ := Aside0.mk (Kd.R_after (ok := (fun _ => True)) (by (with_reducible repeat (first | apply Kd.Ra | apply Kd.Rn | apply Kd.Rd)); exact HO346.out) hg hat); have n2_ := Aside0.mk (hb); have n3_ := Aside0.mk (ho); clear BK343; clear HO346; clear HB; clear HO_5; have BK343 := n0_; have HO346 := n1_; have HB := n2_; have HO349 := n3_; clear n0_ n1_ n2_ n3_; clear ho hb hg hat))
      go_roundg k1
      case measure => have := HK1.out; omega
      case rel => exact ⟨(y347), (wrap64 (x10_1 + 1)), (by first | rfl | (simp; done) | (simp [*]; done)), H', ⟨by have := HK1.out; omega⟩, ⟨by (with_reducible repeat (first | apply Kd.Ra | apply Kd.Rn | apply Kd.Rd)); exact Kd.R_mono HO349.out (fun _ hk => trivial)⟩, ⟨by repeat (first | (with_reducible first | exact HB.out | apply wa | apply wN | apply wd | refine ws ?_ GE343.out) | exact HB.out)⟩⟩

end Go.Proofs.Ytfinjkjnoobbjaa.MFnTeams
