/- slices.DeleteFunc at a row of whole numbers: struck is what is among others (impl.onlyCells). -/
import Derived.Test.YtfhjipfkaemapaaGreatAvOrd
import Derived.Shelf.SlicesE.DeleteFunc
import Derived.Shelf.Slices.Turned
import Derived.Shelf.SlGeneric
import Derived.Ground.SlgfProg
namespace Go.Proofs.YtfhjipfkaemapaaGreat.AvDel
open Go Go.RowKit Go.Sort Go.Shelf Go.Lib Go.Av Go.Proofs Go.Proofs.YtfhjipfkaemapaaGreat.AvOrd
set_option linter.unusedVariables false
section
open Go.Shelf
def laysDelete_ren : Go.Shelf.Ren := ⟨fun | 10 => 107 | 6 => 111 | n => n, fun | 22 => 22 | 23 => 3 | 25 => 88 | 3 => 3 | 4 => 4 | 0 => 0 | n => n, fun | n => n⟩
theorem laysDelete : Go.Proofs.SlLaysH.n10 Tryz.prog laysDelete_ren := {
 mixed := by kernel_rfl
 f6 := ⟨Tryz.f111.name, by decide, Tryz.func111.trans (congrArg some (by kernel_rfl))⟩
 f10 := ⟨Tryz.f107.name, by decide, Tryz.func107.trans (congrArg some (by kernel_rfl))⟩
 t0 := Tryz.underlying0
 a0 := Tryz.isAgg0
 z0 := Tryz.sizeOf0
 v0 := Tryz.zeroValue0
 t3 := Tryz.underlying3
 a3 := Tryz.isAgg3
 z3 := Tryz.sizeOf3
 v3 := Tryz.zeroValue3
 t4 := Tryz.underlying4
 a4 := Tryz.isAgg4
 z4 := Tryz.sizeOf4
 v4 := Tryz.zeroValue4
 t22 := Tryz.underlying22
 a22 := Tryz.isAgg22
 z22 := Tryz.sizeOf22
 v22 := Tryz.zeroValue22
 a23 := Tryz.isAgg3
 z23 := Tryz.sizeOf3
 t25 := Tryz.underlying88
 a25 := Tryz.isAgg88
 z25 := Tryz.sizeOf88
 v25 := Tryz.zeroValue88 }
end
section
open Go.Shelf
def laysContains_ren : Go.Shelf.Ren := ⟨fun | 107 => 61 | 108 => 112 | n => n, fun | 28 => 22 | 3 => 3 | 4 => 4 | 0 => 0 | n => n, fun | n => n⟩
theorem laysContains : Go.Proofs.Lays.n107 Tryz.prog laysContains_ren := {
 mixed := by kernel_rfl
 f107 := Tryz.func61.trans (congrArg some (by kernel_rfl))
 f108 := Tryz.func112.trans (congrArg some (by kernel_rfl))
 t0 := Tryz.underlying0
 a0 := Tryz.isAgg0
 z0 := Tryz.sizeOf0
 v0 := Tryz.zeroValue0
 t3 := Tryz.underlying3
 a3 := Tryz.isAgg3
 z3 := Tryz.sizeOf3
 v3 := Tryz.zeroValue3
 t4 := Tryz.underlying4
 a4 := Tryz.isAgg4
 z4 := Tryz.sizeOf4
 v4 := Tryz.zeroValue4
 t28 := Tryz.underlying22
 a28 := Tryz.isAgg22
 z28 := Tryz.sizeOf22
 v28 := Tryz.zeroValue22 }
end
def Cap (W : World) (cs : List Int) (ad : Addr) : Prop := ∃ u, W.cell? ad = some u ∧ Rep W (· < W.heap.size) (rowI .i64 cs) u
theorem contains_calls (cs : List Int) (u : Value) (W : World) (hu : Rep W (· < W.heap.size) (rowI .i64 cs) u) (hl : cs.length ≤ 9223372036854775807) (x : Int) :
  Calls Tryz.prog 61 #[u, .int .i64 x] W fun e w' => e = .returned (.bool (cs.contains x)) ∧ w' = W := by
 unfold rowI R at hu
 generalize hn : cs.length = n at hu
 cases hu with
 | none z g A c h0 =>
   obtain rfl := List.eq_nil_of_length_eq_zero hn
   exact Any.slices_Contains_int_empty laysContains A c x W
 | row z n g ad c u hn0 hc hok hz hu hr =>
   subst hn
   obtain ⟨b, off, sp⟩ := ad
   have h0 := hu 0 0 hn0 (by omega)
   have hsp : sp = none := by
    cases sp with
    | none => rfl
    | some q => simp [Addr.add, World.cell?] at h0; split at h0 <;> simp at h0
   subst hsp
   have h := Any.slices_Contains_int laysContains b off cs.length c cs x W (Nat.le_refl _) hl (fun j hj => by
    have h1 := hu j 0 hj (by omega)
    have h2 := hr j 0 _ hj (by simp [eI]; rfl)
    generalize u j 0 = y at h1 h2
    cases h2
    have e : (⟨b, off, none⟩ : Addr).add (j * 1 + 0) = ⟨b, off + j, none⟩ := by unfold Addr.add; split <;> simp_all
    rw [e] at h1
    exact h1)
   rw [List.take_of_length_le (Nat.le_refl _)] at h
   exact h
theorem gives (cs : List Int) (ad : Addr) (x : Int) (W : World) (hl : cs.length ≤ 9223372036854775807) (hc : Cap W cs ad) : FnGives Tryz.prog 109 #[.pointer (some ad)] #[.int .i64 x] (.bool (cs.contains x)) W := by
 obtain ⟨u, h1, h2⟩ := hc
 have hC := contains_calls cs u W h2 hl x
 have h3 := h2.one
 show Calls Tryz.prog 109 #[.int .i64 x, .pointer (some ad)] W _
 have H := Aside0.mk h2
 clear h2
 go_enter Tryz.func109, Tryz.ntmps109
 go_wp2_with (go_at_call 61; refine hC.mono ?_; rintro e w' ⟨rfl, rfl⟩)
 all_goals (go_ret; exact ⟨by simp_all, 0, rfl⟩)
def del.f (cs l : List Int) : Option (List Int) := if cs.length ≤ 9223372036854775807 then some (l.filter fun x => !cs.contains x) else none
theorem Cap.of {W : World} {cs : List Int} {ad : Addr} (h : PtrOk W [rowI .i64 cs] (.pointer (some ad))) : Cap W cs ad := by
 obtain ⟨ad', e, h⟩ := h
 cases e
 rcases h with h | ⟨_, h⟩
 ·cases h
 ·exact h 0 _ rfl
set_option maxHeartbeats 4000000 in
theorem del.calls (cs l r : List Int) (h : del.f cs l = some r) (w : World) (base : Nat) (v : Value) (ad : Addr) (hB : base ≤ w.heap.size) (ho : w.ownsRow base 3 1 v (l.map (Value.int .i64)).length (l.map (Value.int .i64)))
  (hc : ∀ w1, w.grownBy w1 v.ownBlock → Cap w1 cs ad) : Calls Tryz.prog 107 #[v, .func (.func 109) #[] #[.pointer (some ad)]] w fun e w' => ∃ v', e = .returned v' ∧ w'.ownsRow base 3 1 v' (r.map (Value.int .i64)).length (r.map (Value.int .i64)) ∧ w.grownBy w' v.ownBlock ∧ ∀ b, v'.ownBlock = some b → v.ownBlock = some b ∨ w.heap.size ≤ b := by
 have hl : cs.length ≤ 9223372036854775807 := by
  unfold del.f at h
  split at h
  ·assumption
  ·exact absurd h (by simp)
 have h := (if_pos hl).symm.trans h
 obtain rfl := Option.some.inj h
 have eg : ∀ args w, (callFunc 109 args).run Tryz.prog w = .ok (.enter 109 args) w := enters_of Tryz.func109 (by kernel_rfl) rfl
 rcases rowAt_of ho with ⟨rfl, rfl⟩ | ⟨g, cap, rfl, hg, hm, hrow⟩
 ·have hI := AnyE.slices_IndexFunc_empty { laysDelete with } none 0 (.func (.func 109) #[] #[.pointer (some ad)]) w
  change Calls Tryz.prog 111 _ _ _ at hI
  have HO := Aside0.mk ho
  clear hB ho h hc
  go_enter Tryz.func107, Tryz.ntmps107
  go_wp2_with (go_at_call 111; refine hI.mono ?_; rintro e w' ⟨rfl, rfl⟩)
  go_ret
  exact ⟨_, rfl, HO.out, ⟨rfl, rfl, rfl, Nat.le_refl _, fun _ _ _ => rfl⟩, fun b hb => .inl hb⟩
 ·have hsz : l.length ≤ cap := by obtain ⟨_, _, _, hl, _⟩ := hrow; exact hl
  have hmx : maxLen ≤ 9223372036854775807 := by unfold maxLen; decide
  have hD := AnyE.slices_DeleteFunc laysDelete (Value.int .i64) (fun _ => rfl) (fun x => cs.contains x) 109 #[.pointer (some ad)] eg 0 Tryz.zeroValue3 g 0 cap l.toArray w
   (fun W x hb => gives cs ad x W hl (hc W ⟨hb.os, hb.tape, hb.output, hb.size, fun i hi _ => hb.block i hi⟩))
   (fun n os dk x _ => gives cs ad x _ hl (hc _ (oth_grow (oth_put (oth_refl g w) n dk) os))) hrow.holds (by rw [List.size_toArray]; omega) (by simpa using hsz)
  change Calls Tryz.prog 107 _ _ _ at hD
  have hl2 : (l.filter fun x => !cs.contains x).length ≤ l.length := List.length_filter_le _ _
  simp only [List.size_toArray] at hD
  refine hD.mono ?_
  rintro e w' ⟨rfl, q, rfl⟩
  exact ⟨_, rfl, owns_of (hrow.put q _ (by rw [List.length_append, List.length_replicate]; omega)).front hg hm, oth_put (oth_refl g w) q _, fun b hb => .inl hb⟩
theorem del.go : Callable Tryz.prog 107 := ⟨_, Tryz.func107, by kernel_rfl, rfl⟩
def del.con (cs l r : List Int) (h : del.f cs l = some r) : MCon Tryz.prog := ⟨107, 3, l.map (.int .i64), r.map (.int .i64), by decide, fun u hu => by obtain ⟨x, _, rfl⟩ := List.mem_map.1 hu; rfl, [.fn 109 [[rowI .i64 cs]]], fun w base v us hb ho hx => by
 have h0 := hx w ⟨rfl, rfl, rfl, Nat.le_refl _, fun _ _ _ => rfl⟩
 match us, h0.1 with
 | [u], _ =>
   obtain ⟨ps, rfl, hl, hp⟩ := h0.2 0 _ _ rfl rfl
   match ps, hl with
   | [p], _ =>
     obtain ⟨ad, rfl, _⟩ := hp 0 _ _ rfl rfl
     exact del.calls cs l r h w base v ad hb ho fun w1 hw1 => by
      obtain ⟨ps, e, hl, hp⟩ := (hx w1 hw1).2 0 _ _ rfl rfl
      have e : #[Value.pointer (some ad)] = ps.toArray := by injection e
      have e : ps = [Value.pointer (some ad)] := (congrArg Array.toList e).symm
      subst e
      exact Cap.of (hp 0 _ _ rfl rfl), del.go⟩
end Go.Proofs.YtfhjipfkaemapaaGreat.AvDel