/- Made by a program of this session (out of the kit's print, with hand-made contracts): what each Go function that the law reaches computes, and that the machine's call does so. -/
import Derived.Test.YtfinjkjnoobbjaaMFnExactJobsOkx0
import Derived.Test.YtfinjkjnoobbjaaMFnExactJobsOkx13
namespace Go.Proofs.Ytfinjkjnoobbjaa.MFnExactJobsOk
open Go.RowKit Go.Proofs.YtfinjkjnoobbjaaW.PrintWords Go.Proofs.YtfinjkjnoobbjaaW.PrintLast Go.Proofs.YtfinjkjnoobbjaaW.PrintMore
attribute [local go_sem] max2_int min2_int max_two min_two max_three min_three max_four min_four   -- for this text's walks alone
set_option linter.unusedVariables false
set_option linter.unusedSimpArgs false

/-! ### impl_RobotAt: function 42 -/
open Go.Proofs.Ytfinjkjnoobbjaa.MyHof in
def impl_RobotAt.f (l0 : List (S84)) (a1 : Int) : Option (Int) := some (idxOf (fun x : S84 => x.f0 == a1) l0)
open Go.Proofs.Ytfinjkjnoobbjaa.MyHof in
set_option maxHeartbeats 2000000 in
theorem impl_RobotAt.inner (c : Int) (B : Nat) (l : List S84) (w : World) (hB : B < w.heap.size) (hcell : w.cell? ⟨B, 0, none⟩ = some (.int .i64 c)) :
    PredB Try.prog 101 #[.pointer (some ⟨B, 0, none⟩)] (fun x : S84 => .agg #[.int .i64 x.f0, .int .i64 x.f1, .int .i64 x.f2, .bool x.f3]) (fun x => x.f0 == c) l w := fun W x _ hb => by
  have hc : W.cell? ⟨B, 0, none⟩ = some (.int .i64 c) := (hb.cell (p := ⟨B, 0, none⟩) hB).trans hcell
  have hBW : B < W.heap.size := Nat.lt_of_lt_of_le hB hb.size
  have hne : B ≠ W.heap.size := by omega
  have hu := Try.underlying84
  show Calls Try.prog 101 #[.agg #[.int .i64 x.f0, .int .i64 x.f1, .int .i64 x.f2, .bool x.f3], .pointer (some ⟨B, 0, none⟩)] W fun e w' => e = .returned (.bool (x.f0 == c)) ∧ Below w.heap.size w w'
  cases h1 : (x.f0 == c)
  · go_enter Try.func101, Try.ntmps101
    go_wp2
    go_ret
    exact ⟨by first | rfl | simp_all, hb.alloc hb.size _⟩
  · go_enter Try.func101, Try.ntmps101
    go_wp2
    go_ret
    exact ⟨by first | rfl | simp_all, hb.alloc hb.size _⟩
open Go.Proofs.Ytfinjkjnoobbjaa.MyHof in
set_option maxHeartbeats 4000000 in
set_option maxRecDepth 100000 in
theorem impl_RobotAt.calls (A0 : Option Addr) (c0 : Nat) (l0 : List (S84)) (a1 : Int) (r : Int) (w : World) (hr0 : Kd.C k84 w A0 l0.length l0) (hc0 : l0.length ≤ c0) (h : impl_RobotAt.f l0 a1 = some r) :
    Calls Try.prog 42 #[.slice A0 l0.length c0, .int .i64 a1] w fun e w' => e = .returned (.int .i64 r) ∧ Below w.heap.size w w' := by
  obtain rfl := Option.some.inj h
  have eg : ∀ args w, (callFunc 101 args).run Try.prog w = .ok (.enter 101 args) w := enters_of Try.func101 (by kernel_rfl) rfl
  have hb1 : Below w.heap.size w (w.alloc (.cells #[.int .i64 a1] 3)) := wa (Below.refl _ w) _
  have hcon := slices_IndexFunc_Robot.hof 101 #[.pointer (some ⟨w.heap.size, 0, none⟩)] eg (fun x => x.f0 == a1) A0 c0 l0 (w.alloc (.cells #[.int .i64 a1] 3)) (Kd.C_below hr0 hb1) hc0 (impl_RobotAt.inner a1 w.heap.size l0 _ (by simp) (by simp))
  have HB1 := Aside0.mk hb1
  clear hb1 hr0 hc0 h
  generalize idxOf (fun x : S84 => x.f0 == a1) l0 = q at hcon ⊢
  go_enter Try.func42, Try.ntmps42
  go_wp2_with (go_at_call 100; refine hcon.mono ?_; rintro e w' ⟨rfl, hb'⟩)
  go_ret
  exact ⟨rfl, below_then HB1.out HB1.out.size hb'⟩


/-! ### slices_IndexFunc_Job: function 165 -/
open Go.Proofs.Ytfinjkjnoobbjaa.MyHof in
set_option maxHeartbeats 2000000 in
set_option maxRecDepth 100000 in
theorem slices_IndexFunc_Job.hof (g : Nat) (lb : Array Value) (eg : ∀ args w, (callFunc g args).run Try.prog w = .ok (.enter g args) w) (p : S141 → Bool) (A0 : Option Addr) (c0 : Nat) (l0 : List S141) (w : World)
    (hr0 : Kd.C k141 w A0 l0.length l0) (hc0 : l0.length ≤ c0) (hp : PredB Try.prog g lb (fun x : S141 => .agg #[.int .i64 x.f0, .int .i64 x.f1, .bool x.f2]) p l0 w) :
    Calls Try.prog 165 #[.slice A0 l0.length c0, .func (.func g) #[] lb] w fun e w' => e = .returned (.int .i64 (idxOf p l0)) ∧ Below w.heap.size w w' := by
  have hbig : l0.length ≤ 9223372036854775807 := hr0.2.1
  have hu := Try.underlying141
  have HR := Aside0.mk hr0
  have HP := Aside0.mk hp
  clear hr0 hp hc0
  go_enter Try.func165, Try.ntmps165
  go_wp2
  go_loopg [5, 8] l0.length (fun gg _ s8 wr => ∃ x8 : Int, s8 = .int .i64 x8 ∧ Aside0 (0 ≤ x8 ∧ x8 ≤ l0.length) ∧ Aside0 (l0.length - x8.toNat ≤ gg) ∧ Aside0 (Below w.heap.size w wr) ∧ Aside0 (∀ x ∈ l0.take x8.toNat, p x = false))
  case atStart => exact ⟨0, rfl, ⟨by omega⟩, ⟨by omega⟩, ⟨Below.refl _ w⟩, ⟨fun x hx => by simp at hx⟩⟩
  case round =>
    obtain ⟨x8, rfl, HX, HG, HB, HA⟩ := hrel
    by_cases hlt : x8 < (l0.length : Int)
    rotate_left
    · have HL := Aside0.mk hlt
      have hlt' : decide (x8 < (l0.length : Int)) = false := decide_eq_false hlt
      clear hlt
      go_wp2
      go_ret
      refine ⟨?_, HB.out⟩
      have : x8.toNat = l0.length := by have := HL.out; have := HX.out; omega
      rw [idxOf_miss (by have h := HA.out; rw [this, List.take_length] at h; exact h)]
      rfl
    have h0 := HX.out.1
    have hn : x8.toNat < l0.length := by omega
    obtain ⟨ad, e, hx0, hx1, hx2⟩ := at_T141 HR.out x8 h0 hlt
    cases e
    replace hx0 := (HB.out.cell (World.block_lt_of_cell? w _ hx0)).trans hx0
    replace hx1 := (HB.out.cell (World.block_lt_of_cell? w _ hx1)).trans hx1
    replace hx2 := (HB.out.cell (World.block_lt_of_cell? w _ hx2)).trans hx2
    have hcall := HP.out _ (l0[x8.toNat]) (List.getElem_mem hn) HB.out
    have HN := Aside0.mk hn
    have HL := Aside0.mk hlt
    have hv0 : rd_T141 l0 x8 = l0[x8.toNat] := by simp [rd_T141, List.getD, hn]
    have hlt' := eq_true hlt
    have hlt'' : decide (x8 < (l0.length : Int)) = true := decide_eq_true hlt
    have h0'' : decide (0 ≤ x8) = true := decide_eq_true h0
    have h0' := eq_true h0
    rw [← hv0] at hcall
    obtain ⟨v, hv⟩ : ∃ v, v = rd_T141 l0 x8 := ⟨_, rfl⟩
    rw [← hv] at hx0 hx1 hx2 hcall
    have HVV : Aside0 (∀ h : x8.toNat < l0.length, l0[x8.toNat] = v) := ⟨fun _ => by rw [hv, hv0]⟩
    clear hv hv0 hlt h0 hn
    cases hq : p v with
    | true =>
      have HQ := Aside0.mk hq
      rw [hq] at hcall
      clear hq
      go_wp2_with (go_at_fn g; refine hcall.mono ?_; rintro e w' ⟨rfl, hb'⟩)
      go_ret
      refine ⟨?_, hb'⟩
      have e8 : ((x8.toNat : Nat) : Int) = x8 := by have := HX.out; omega
      rw [idxOf_hit HN.out (by rw [HVV.out HN.out]; exact HQ.out) HA.out, e8]
      rfl
    | false =>
      have HQ := Aside0.mk hq
      rw [hq] at hcall
      clear hq
      go_wp2_with (go_at_fn g; refine hcall.mono ?_; rintro e w' ⟨rfl, hb'⟩)
      have hw : wrap64 (x8 + 1) = x8 + 1 := by have := HL.out; have := HX.out; unfold wrap64; omega
      go_roundg (l0.length - (x8.toNat + 1))
      case measure => have := HN.out; have := HG.out; omega
      case rel =>
        refine ⟨x8 + 1, by first | rfl | (rw [hw]) | simp [hw], ⟨by have := HL.out; have := HX.out; omega⟩, ⟨by have := HX.out; omega⟩, ⟨hb'⟩, ⟨?_⟩⟩
        have e1 : (x8 + 1).toNat = x8.toNat + 1 := by have := HX.out; omega
        rw [e1]
        exact take_snoc_all HN.out HA.out (by rw [HVV.out HN.out]; exact HQ.out)

/-! ### slices_ContainsFunc_Job: function 154 -/
open Go.Proofs.Ytfinjkjnoobbjaa.MyHof in
set_option maxHeartbeats 1000000 in
theorem slices_ContainsFunc_Job.hof (g : Nat) (lb : Array Value) (eg : ∀ args w, (callFunc g args).run Try.prog w = .ok (.enter g args) w) (p : S141 → Bool) (A0 : Option Addr) (c0 : Nat) (l0 : List S141) (w : World)
    (hr0 : Kd.C k141 w A0 l0.length l0) (hc0 : l0.length ≤ c0) (hp : PredB Try.prog g lb (fun x : S141 => .agg #[.int .i64 x.f0, .int .i64 x.f1, .bool x.f2]) p l0 w) :
    Calls Try.prog 154 #[.slice A0 l0.length c0, .func (.func g) #[] lb] w fun e w' => e = .returned (.bool (l0.any p)) ∧ Below w.heap.size w w' := by
  have hcon := slices_IndexFunc_Job.hof g lb eg p A0 c0 l0 w hr0 hc0 hp
  have hany := idxOf_any p l0
  have HA := Aside0.mk hany
  clear hany hr0 hc0 hp
  generalize idxOf p l0 = r at hcon HA
  rw [← HA.out]
  clear HA
  go_enter Try.func154, Try.ntmps154
  go_wp2_with (go_at_call 165; refine hcon.mono ?_; rintro e w' ⟨rfl, hb'⟩)
  go_ret
  exact ⟨rfl, hb'⟩


/-! ### impl_isJob_1: function 155 -/
def impl_isJob_1.f (l0 : List S141) (a1_0 : Int) (a1_1 : Int) (a1_2 : Bool) : Option Bool := some (l0.any fun x => x.f0 == a1_0)
open Go.Proofs.Ytfinjkjnoobbjaa.MyHof in
set_option maxHeartbeats 2000000 in
set_option maxRecDepth 100000 in
theorem impl_isJob_1.inner (c : Int) (B : Nat) (l : List S141) (w : World) (hcell : w.cell? ⟨B, 0, none⟩ = some (.int .i64 c)) :
    PredB Try.prog 155 #[.pointer (some ⟨B, 0, none⟩)] (fun x : S141 => .agg #[.int .i64 x.f0, .int .i64 x.f1, .bool x.f2]) (fun x => x.f0 == c) l w := fun W x _ hb => by
  have hB : B < w.heap.size := World.block_lt_of_cell? w _ hcell
  have hc : W.cell? ⟨B, 0, none⟩ = some (.int .i64 c) := (hb.cell (p := ⟨B, 0, none⟩) hB).trans hcell
  have hBW : B < W.heap.size := Nat.lt_of_lt_of_le hB hb.size
  have hne : B ≠ W.heap.size := by have := hb.size; omega
  have hu := Try.underlying141
  show Calls Try.prog 155 #[.agg #[.int .i64 x.f0, .int .i64 x.f1, .bool x.f2], .pointer (some ⟨B, 0, none⟩)] W fun e w' => e = .returned (.bool (x.f0 == c)) ∧ Below w.heap.size w w'
  cases h1 : (x.f0 == c)
  · go_enter Try.func155, Try.ntmps155
    go_wp2
    go_ret
    exact ⟨by first | rfl | simp_all, hb.alloc hb.size _⟩
  · go_enter Try.func155, Try.ntmps155
    go_wp2
    go_ret
    exact ⟨by first | rfl | simp_all, hb.alloc hb.size _⟩
theorem impl_isJob_1.calls (A0 : Option Addr) (c0 : Nat) (l0 : List S141) (a1_0 a1_1 : Int) (a1_2 : Bool) (r : Bool) (w : World) {g1 : Nat} (hb1 : w.heap[g1]? = some (.cells #[.int .i64 a1_0, .int .i64 a1_1, .bool a1_2] 141 (0, 0)))
    (hr0 : Kd.C k141 w A0 l0.length l0) (hc0 : l0.length ≤ c0) (h : impl_isJob_1.f l0 a1_0 a1_1 a1_2 = some r) :
    Calls Try.prog 154 #[.slice A0 l0.length c0, .func (.func 155) #[] #[.pointer (some ⟨g1, 0, none⟩)]] w fun e w' => e = .returned (.bool r) ∧ Below w.heap.size w w' := by
  obtain rfl := Option.some.inj h
  exact slices_ContainsFunc_Job.hof 155 _ (enters_of Try.func155 (by kernel_rfl) rfl) _ A0 c0 l0 w hr0 hc0 (impl_isJob_1.inner a1_0 g1 l0 w ((bc hb1 0).trans rfl))


end Go.Proofs.Ytfinjkjnoobbjaa.MFnExactJobsOk
