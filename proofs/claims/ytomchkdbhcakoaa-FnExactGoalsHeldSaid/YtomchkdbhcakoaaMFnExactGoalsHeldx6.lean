/- Made by a program of this session (out of the kit's print, with hand-made contracts): what each Go function that the law reaches computes, and that the machine's call does so. -/
import Derived.Test.YtomchkdbhcakoaaMFnExactGoalsHeldx0
namespace Go.Proofs.Ytomchkdbhcakoaa.MFnExactGoalsHeld
open Go.RowKit Go.Proofs.YtomchkdbhcakoaaW.PrintWords Go.Proofs.YtomchkdbhcakoaaW.PrintLast Go.Proofs.YtomchkdbhcakoaaW.PrintMore
attribute [local go_sem] max2_int min2_int max_two min_two max_three min_three max_four min_four   -- for this text's walks alone
set_option linter.unusedVariables false
set_option linter.unusedSimpArgs false

/-! ### slices_IndexFunc_int_int: function 115 -/
open Go.Proofs.Ytomchkdbhcakoaa.MyHof in
set_option maxHeartbeats 2000000 in
set_option maxRecDepth 100000 in
theorem slices_IndexFunc_int_int.hof (g : Nat) (lb : Array Value) (eg : ∀ args w, (callFunc g args).run Try.prog w = .ok (.enter g args) w) (p : Int → Bool) (A0 : Option Addr) (c0 : Nat) (l0 : List Int) (w : World)
    (hr0 : Kd.C (Kd.int .i64) w A0 l0.length l0) (hc0 : l0.length ≤ c0) (hp : PredB Try.prog g lb (fun x => .int .i64 x) p l0 w) :
    Calls Try.prog 115 #[.slice A0 l0.length c0, .func (.func g) #[] lb] w fun e w' => e = .returned (.int .i64 (idxOf p l0)) ∧ Below w.heap.size w w' := by
  have hbig : l0.length ≤ 9223372036854775807 := hr0.2.1
  have HR := Aside0.mk hr0
  have HP := Aside0.mk hp
  clear hr0 hp hc0
  go_enter Try.func115, Try.ntmps115
  go_wp2
  go_loopg [5, 8] l0.length (fun gg _ s8 wr => ∃ x8 : Int, s8 = .int .i64 x8 ∧ Aside0 (0 ≤ x8 ∧ x8 ≤ l0.length) ∧ Aside0 (l0.length - x8.toNat ≤ gg) ∧ Aside0 (Below w.heap.size w wr) ∧ Aside0 (∀ x ∈ l0.take x8.toNat, p x = false))
  case atStart => exact ⟨0, rfl, ⟨by omega⟩, ⟨by omega⟩, ⟨Below.refl _ w⟩, ⟨fun x hx => by simp at hx⟩⟩
  case round =>
    obtain ⟨x8, rfl, HX, HG, HB, HA⟩ := hrel
    by_cases hlt : x8 < (l0.length : Int)
    · have h0 := HX.out.1
      have hn : x8.toNat < l0.length := by omega
      obtain ⟨ad, e, hx⟩ := int_at HR.out x8 h0 hlt
      cases e
      replace hx := (HB.out.cell (World.block_lt_of_cell? w _ hx)).trans hx
      have hcall := HP.out _ (l0[x8.toNat]) (List.getElem_mem hn) HB.out
      have HN := Aside0.mk hn
      have HL := Aside0.mk hlt
      have hlt' := eq_true hlt
      have hlt'' : decide (x8 < (l0.length : Int)) = true := decide_eq_true hlt
      have h0'' : decide (0 ≤ x8) = true := decide_eq_true h0
      have h0' := eq_true h0
      obtain ⟨v, hv⟩ : ∃ v, v = l0[x8.toNat] := ⟨_, rfl⟩
      rw [← hv] at hx hcall
      have HVV : Aside0 (∀ h : x8.toNat < l0.length, l0[x8.toNat] = v) := ⟨fun _ => hv.symm⟩
      clear hv hlt h0 hn
      cases hq : p v with
      | true =>
        have HQ := Aside0.mk hq
        rw [hq] at hcall
        clear hq
        go_wp2_with (go_at_fn g; refine hcall.mono ?_; rintro e w' ⟨rfl, hb'⟩)
        go_ret
        refine ⟨?_, hb'⟩
        have e8 : ((x8.toNat : Nat) : Int) = x8 := by have := HX.out; omega
        rw [idxOf_hit HN.out (by rw [HVV.out HN.out]; exact HQ.out) HA.out, e8]
        rfl
      | false =>
        have HQ := Aside0.mk hq
        rw [hq] at hcall
        clear hq
        go_wp2_with (go_at_fn g; refine hcall.mono ?_; rintro e w' ⟨rfl, hb'⟩)
        have hw : wrap64 (x8 + 1) = x8 + 1 := by have := HL.out; have := HX.out; unfold wrap64; omega
        go_roundg (l0.length - (x8.toNat + 1))
        case measure => have := HN.out; have := HG.out; omega
        case rel =>
          refine ⟨x8 + 1, by first | rfl | (rw [hw]) | simp [hw], ⟨by have := HL.out; have := HX.out; omega⟩, ⟨by have := HX.out; omega⟩, ⟨hb'⟩, ⟨?_⟩⟩
          have e1 : (x8 + 1).toNat = x8.toNat + 1 := by have := HX.out; omega
          rw [e1]
          exact take_snoc_all HN.out HA.out (by rw [HVV.out HN.out]; exact HQ.out)
    · have HL := Aside0.mk hlt
      have hlt' : decide (x8 < (l0.length : Int)) = false := decide_eq_false hlt
      clear hlt
      go_wp2
      go_ret
      refine ⟨?_, HB.out⟩
      have : x8.toNat = l0.length := by have := HL.out; have := HX.out; omega
      rw [idxOf_miss (by have h := HA.out; rw [this, List.take_length] at h; exact h)]
      rfl


/-! ### slices_ContainsFunc_int_int: function 63 -/
open Go.Proofs.Ytomchkdbhcakoaa.MyHof in
set_option maxHeartbeats 1000000 in
theorem slices_ContainsFunc_int_int.hof (g : Nat) (lb : Array Value) (eg : ∀ args w, (callFunc g args).run Try.prog w = .ok (.enter g args) w) (p : Int → Bool) (A0 : Option Addr) (c0 : Nat) (l0 : List Int) (w : World)
    (hr0 : Kd.C (Kd.int .i64) w A0 l0.length l0) (hc0 : l0.length ≤ c0) (hp : PredB Try.prog g lb (fun x => .int .i64 x) p l0 w) :
    Calls Try.prog 63 #[.slice A0 l0.length c0, .func (.func g) #[] lb] w fun e w' => e = .returned (.bool (l0.any p)) ∧ Below w.heap.size w w' := by
  have hcon := slices_IndexFunc_int_int.hof g lb eg p A0 c0 l0 w hr0 hc0 hp
  have hany := idxOf_any p l0
  have HA := Aside0.mk hany
  clear hany hr0 hc0 hp
  generalize idxOf p l0 = r at hcon HA
  rw [← HA.out]
  clear HA
  go_enter Try.func63, Try.ntmps63
  go_wp2_with (go_at_call 115; refine hcon.mono ?_; rintro e w' ⟨rfl, hb'⟩)
  go_ret
  exact ⟨rfl, hb'⟩


/-! ### slices_IndexFunc_Robot: function 116 -/
open Go.Proofs.Ytomchkdbhcakoaa.MyHof in
set_option maxHeartbeats 2000000 in
set_option maxRecDepth 100000 in
theorem slices_IndexFunc_Robot.hof (g : Nat) (lb : Array Value) (eg : ∀ args w, (callFunc g args).run Try.prog w = .ok (.enter g args) w) (p : S89 → Bool) (A0 : Option Addr) (c0 : Nat) (l0 : List S89) (w : World)
    (hr0 : Kd.C k89 w A0 l0.length l0) (hc0 : l0.length ≤ c0) (hp : PredB Try.prog g lb (fun x : S89 => .agg #[.int .i64 x.f0, .int .i64 x.f1, .int .i64 x.f2, .bool x.f3]) p l0 w) :
    Calls Try.prog 116 #[.slice A0 l0.length c0, .func (.func g) #[] lb] w fun e w' => e = .returned (.int .i64 (idxOf p l0)) ∧ Below w.heap.size w w' := by
  have hbig : l0.length ≤ 9223372036854775807 := hr0.2.1
  have hu := Try.underlying89
  have HR := Aside0.mk hr0
  have HP := Aside0.mk hp
  clear hr0 hp hc0
  go_enter Try.func116, Try.ntmps116
  go_wp2
  go_loopg [5, 8] l0.length (fun gg _ s8 wr => ∃ x8 : Int, s8 = .int .i64 x8 ∧ Aside0 (0 ≤ x8 ∧ x8 ≤ l0.length) ∧ Aside0 (l0.length - x8.toNat ≤ gg) ∧ Aside0 (Below w.heap.size w wr) ∧ Aside0 (∀ x ∈ l0.take x8.toNat, p x = false))
  case atStart => exact ⟨0, rfl, ⟨by omega⟩, ⟨by omega⟩, ⟨Below.refl _ w⟩, ⟨fun x hx => by simp at hx⟩⟩
  case round =>
    obtain ⟨x8, rfl, HX, HG, HB, HA⟩ := hrel
    by_cases hlt : x8 < (l0.length : Int)
    · have h0 := HX.out.1
      have hn : x8.toNat < l0.length := by omega
      obtain ⟨ad, e, hx0, hx1, hx2, hx3⟩ := at_T89 HR.out x8 h0 hlt
      cases e
      replace hx0 := (HB.out.cell (World.block_lt_of_cell? w _ hx0)).trans hx0
      replace hx1 := (HB.out.cell (World.block_lt_of_cell? w _ hx1)).trans hx1
      replace hx2 := (HB.out.cell (World.block_lt_of_cell? w _ hx2)).trans hx2
      replace hx3 := (HB.out.cell (World.block_lt_of_cell? w _ hx3)).trans hx3
      have hcall := HP.out _ (l0[x8.toNat]) (List.getElem_mem hn) HB.out
      have HN := Aside0.mk hn
      have HL := Aside0.mk hlt
      have hv0 : rd_T89 l0 x8 = l0[x8.toNat] := by simp [rd_T89, List.getD, hn]
      have hlt' := eq_true hlt
      have hlt'' : decide (x8 < (l0.length : Int)) = true := decide_eq_true hlt
      have h0'' : decide (0 ≤ x8) = true := decide_eq_true h0
      have h0' := eq_true h0
      rw [← hv0] at hcall
      obtain ⟨v, hv⟩ : ∃ v, v = rd_T89 l0 x8 := ⟨_, rfl⟩
      rw [← hv] at hx0 hx1 hx2 hx3 hcall
      have HVV : Aside0 (∀ h : x8.toNat < l0.length, l0[x8.toNat] = v) := ⟨fun _ => by rw [hv, hv0]⟩
      clear hv hv0 hlt h0 hn
      cases hq : p v with
      | true =>
        have HQ := Aside0.mk hq
        rw [hq] at hcall
        clear hq
        go_wp2_with (go_at_fn g; refine hcall.mono ?_; rintro e w' ⟨rfl, hb'⟩)
        go_ret
        refine ⟨?_, hb'⟩
        have e8 : ((x8.toNat : Nat) : Int) = x8 := by have := HX.out; omega
        rw [idxOf_hit HN.out (by rw [HVV.out HN.out]; exact HQ.out) HA.out, e8]
        rfl
      | false =>
        have HQ := Aside0.mk hq
        rw [hq] at hcall
        clear hq
        go_wp2_with (go_at_fn g; refine hcall.mono ?_; rintro e w' ⟨rfl, hb'⟩)
        have hw : wrap64 (x8 + 1) = x8 + 1 := by have := HL.out; have := HX.out; unfold wrap64; omega
        go_roundg (l0.length - (x8.toNat + 1))
        case measure => have := HN.out; have := HG.out; omega
        case rel =>
          refine ⟨x8 + 1, by first | rfl | (rw [hw]) | simp [hw], ⟨by have := HL.out; have := HX.out; omega⟩, ⟨by have := HX.out; omega⟩, ⟨hb'⟩, ⟨?_⟩⟩
          have e1 : (x8 + 1).toNat = x8.toNat + 1 := by have := HX.out; omega
          rw [e1]
          exact take_snoc_all HN.out HA.out (by rw [HVV.out HN.out]; exact HQ.out)
    · have HL := Aside0.mk hlt
      have hlt' : decide (x8 < (l0.length : Int)) = false := decide_eq_false hlt
      clear hlt
      go_wp2
      go_ret
      refine ⟨?_, HB.out⟩
      have : x8.toNat = l0.length := by have := HL.out; have := HX.out; omega
      rw [idxOf_miss (by have h := HA.out; rw [this, List.take_length] at h; exact h)]
      rfl


/-! ### slices_ContainsFunc_Robot: function 65 -/
open Go.Proofs.Ytomchkdbhcakoaa.MyHof in
set_option maxHeartbeats 1000000 in
theorem slices_ContainsFunc_Robot.hof (g : Nat) (lb : Array Value) (eg : ∀ args w, (callFunc g args).run Try.prog w = .ok (.enter g args) w) (p : S89 → Bool) (A0 : Option Addr) (c0 : Nat) (l0 : List S89) (w : World)
    (hr0 : Kd.C k89 w A0 l0.length l0) (hc0 : l0.length ≤ c0) (hp : PredB Try.prog g lb (fun x : S89 => .agg #[.int .i64 x.f0, .int .i64 x.f1, .int .i64 x.f2, .bool x.f3]) p l0 w) :
    Calls Try.prog 65 #[.slice A0 l0.length c0, .func (.func g) #[] lb] w fun e w' => e = .returned (.bool (l0.any p)) ∧ Below w.heap.size w w' := by
  have hcon := slices_IndexFunc_Robot.hof g lb eg p A0 c0 l0 w hr0 hc0 hp
  have hany := idxOf_any p l0
  have HA := Aside0.mk hany
  clear hany hr0 hc0 hp
  generalize idxOf p l0 = r at hcon HA
  rw [← HA.out]
  clear HA
  go_enter Try.func65, Try.ntmps65
  go_wp2_with (go_at_call 116; refine hcon.mono ?_; rintro e w' ⟨rfl, hb'⟩)
  go_ret
  exact ⟨rfl, hb'⟩


/-! ### impl_GoalsHeld: function 15 -/
def impl_GoalsHeld.p1 (c : Int) (x : S89) : Bool := (x.f1 == c) && (x.f2 == -1)
def impl_GoalsHeld.f (a0_0 : Int) (a0_1 : Int) (a0_2 : ByteArray) (a0_3 : Int) (a0_4 : Int) (a0_5 : Int) (a0_6 : Int) (l0_7 : List (S89)) (a0_8 : Int) (a0_9 : Int) (l0_10 : List Int) (a0_11 : Int) (a0_12 : Bool) (a0_13 : Int) (a0_14 : Int) (l0_15 : List (S159)) (l0_16 : List (S103)) (l0_17 : List Int) : Option (Bool) :=
  some (!(l0_17.any fun c => !(l0_7.any fun x => impl_GoalsHeld.p1 c x)))
open Go.Proofs.Ytomchkdbhcakoaa.MyHof in
set_option maxHeartbeats 2000000 in
theorem impl_GoalsHeld.inner (c : Int) (B : Nat) (l : List S89) (w : World) (hB : B < w.heap.size) (hcell : w.cell? ⟨B, 0, none⟩ = some (.int .i64 c)) :
    PredB Try.prog 66 #[.pointer (some ⟨B, 0, none⟩)] (fun x : S89 => .agg #[.int .i64 x.f0, .int .i64 x.f1, .int .i64 x.f2, .bool x.f3]) (impl_GoalsHeld.p1 c) l w := fun W x _ hb => by
  have hc : W.cell? ⟨B, 0, none⟩ = some (.int .i64 c) := (hb.cell (p := ⟨B, 0, none⟩) hB).trans hcell
  have hBW : B < W.heap.size := Nat.lt_of_lt_of_le hB hb.size
  have hne : B ≠ W.heap.size := by omega
  have hu := Try.underlying89
  show Calls Try.prog 66 #[.agg #[.int .i64 x.f0, .int .i64 x.f1, .int .i64 x.f2, .bool x.f3], .pointer (some ⟨B, 0, none⟩)] W _
  unfold impl_GoalsHeld.p1
  cases h1 : (x.f1 == c)
  · go_enter Try.func66, Try.ntmps66
    go_wp2
    go_ret
    exact ⟨by simp, hb.alloc hb.size _⟩
  · cases h2 : (x.f2 == -1)
    · go_enter Try.func66, Try.ntmps66
      go_wp2
      go_ret
      exact ⟨by simp, hb.alloc hb.size _⟩
    · go_enter Try.func66, Try.ntmps66
      go_wp2
      go_ret
      exact ⟨by simp, hb.alloc hb.size _⟩
open Go.Proofs.Ytomchkdbhcakoaa.MyHof in
set_option maxHeartbeats 2000000 in
theorem impl_GoalsHeld.outer (B : Nat) (A7 : Option Addr) (c7 : Nat) (l : List S89) (gs : List Int) (w : World) (hB : B < w.heap.size) (hcell : w.cell? ⟨B, 7, none⟩ = some (.slice A7 l.length c7)) (hr : Kd.C k89 w A7 l.length l) (hc7 : l.length ≤ c7) :
    PredB Try.prog 64 #[.pointer (some ⟨B, 0, none⟩)] (fun x : Int => .int .i64 x) (fun c => !(l.any fun x => impl_GoalsHeld.p1 c x)) gs w := fun W x _ hb => by
  have hc : W.cell? ⟨B, 7, none⟩ = some (.slice A7 l.length c7) := (hb.cell (p := ⟨B, 7, none⟩) hB).trans hcell
  have hBW : B < W.heap.size := Nat.lt_of_lt_of_le hB hb.size
  have hne : B ≠ W.heap.size := by omega
  have hu := Try.underlying48
  have eg : ∀ args w, (callFunc 66 args).run Try.prog w = .ok (.enter 66 args) w := enters_of Try.func66 (by kernel_rfl) rfl
  have hb1 : Below w.heap.size w (W.alloc (.cells #[.int .i64 x] 3)) := hb.alloc hb.size _
  have hcon := slices_ContainsFunc_Robot.hof 66 #[.pointer (some ⟨W.heap.size, 0, none⟩)] eg (impl_GoalsHeld.p1 x) A7 c7 l (W.alloc (.cells #[.int .i64 x] 3)) (Kd.C_below hr hb1) hc7
    (impl_GoalsHeld.inner x W.heap.size l _ (by simp) (by simp))
  show Calls Try.prog 64 #[.int .i64 x, .pointer (some ⟨B, 0, none⟩)] W _
  have HB := Aside0.mk hb
  have HB1 := Aside0.mk hb1
  clear hb hb1 hr hcell
  show Calls Try.prog 64 #[.int .i64 x, .pointer (some ⟨B, 0, none⟩)] W fun e w' => e = .returned (.bool (!(l.any (impl_GoalsHeld.p1 x)))) ∧ Below w.heap.size w w'
  generalize l.any (impl_GoalsHeld.p1 x) = q at hcon ⊢
  go_enter Try.func64, Try.ntmps64
  go_wp2_with (go_at_call 65; refine hcon.mono ?_; rintro e w' ⟨rfl, hb'⟩)
  go_ret
  exact ⟨rfl, below_then HB1.out HB1.out.size hb'⟩
open Go.Proofs.Ytomchkdbhcakoaa.MyHof in
set_option maxHeartbeats 4000000 in
set_option maxRecDepth 100000 in
theorem impl_GoalsHeld.calls (a0_0 : Int) (a0_1 : Int) (a0_2 : ByteArray) (a0_3 : Int) (a0_4 : Int) (a0_5 : Int) (a0_6 : Int) (A0_7 : Option Addr) (c0_7 : Nat) (l0_7 : List (S89)) (a0_8 : Int) (a0_9 : Int) (A0_10 : Option Addr) (c0_10 : Nat) (l0_10 : List Int) (a0_11 : Int) (a0_12 : Bool) (a0_13 : Int) (a0_14 : Int) (A0_15 : Option Addr) (c0_15 : Nat) (l0_15 : List (S159)) (A0_16 : Option Addr) (c0_16 : Nat) (l0_16 : List (S103)) (A0_17 : Option Addr) (c0_17 : Nat) (l0_17 : List Int) (r : Bool) (w : World) (hr0_7 : Kd.C k89 w A0_7 l0_7.length l0_7) (hc0_7 : l0_7.length ≤ c0_7) (hr0_10 : Kd.C (Kd.int .i64) w A0_10 l0_10.length l0_10) (hc0_10 : l0_10.length ≤ c0_10) (hr0_15 : Kd.C k159 w A0_15 l0_15.length l0_15) (hc0_15 : l0_15.length ≤ c0_15) (hr0_16 : Kd.C k103 w A0_16 l0_16.length l0_16) (hc0_16 : l0_16.length ≤ c0_16) (hr0_17 : Kd.C (Kd.int .i64) w A0_17 l0_17.length l0_17) (hc0_17 : l0_17.length ≤ c0_17) (h : impl_GoalsHeld.f a0_0 a0_1 a0_2 a0_3 a0_4 a0_5 a0_6 l0_7 a0_8 a0_9 l0_10 a0_11 a0_12 a0_13 a0_14 l0_15 l0_16 l0_17 = some r) :
    Calls Try.prog 15 #[.agg #[.int .i64 a0_0, .int .i64 a0_1, .string a0_2, .int .i64 a0_3, .int .i64 a0_4, .int .i64 a0_5, .int .i64 a0_6, .slice A0_7 l0_7.length c0_7, .int .i64 a0_8, .int .i64 a0_9, .slice A0_10 l0_10.length c0_10, .int .i64 a0_11, .bool a0_12, .int .i64 a0_13, .int .i64 a0_14, .slice A0_15 l0_15.length c0_15, .slice A0_16 l0_16.length c0_16, .slice A0_17 l0_17.length c0_17]] w fun e w' => e = .returned (.bool r) ∧ Below w.heap.size w w' := by
  obtain rfl := Option.some.inj h
  have hu := Try.underlying48
  have eg : ∀ args w, (callFunc 64 args).run Try.prog w = .ok (.enter 64 args) w := enters_of Try.func64 (by kernel_rfl) rfl
  obtain ⟨W, hW⟩ : ∃ W, W = w.alloc (.cells #[.int .i64 a0_0, .int .i64 a0_1, .string a0_2, .int .i64 a0_3, .int .i64 a0_4, .int .i64 a0_5, .int .i64 a0_6, .slice A0_7 l0_7.length c0_7, .int .i64 a0_8, .int .i64 a0_9, .slice A0_10 l0_10.length c0_10, .int .i64 a0_11, .bool a0_12, .int .i64 a0_13, .int .i64 a0_14, .slice A0_15 l0_15.length c0_15, .slice A0_16 l0_16.length c0_16, .slice A0_17 l0_17.length c0_17] 48) := ⟨_, rfl⟩
  have hb1 : Below w.heap.size w W := by rw [hW]; exact below_alloc (Below.refl _ w) _
  have hBW : w.heap.size < W.heap.size := by rw [hW]; simp
  have hcell7 : W.cell? ⟨w.heap.size, 7, none⟩ = some (.slice A0_7 l0_7.length c0_7) := by rw [hW]; simp
  have hcon := slices_ContainsFunc_int_int.hof 64 #[.pointer (some ⟨w.heap.size, 0, none⟩)] eg (fun c => !(l0_7.any fun x => impl_GoalsHeld.p1 c x)) A0_17 c0_17 l0_17 W (Kd.C_below hr0_17 hb1) hc0_17
    (impl_GoalsHeld.outer w.heap.size A0_7 c0_7 l0_7 l0_17 W hBW hcell7 (Kd.C_below hr0_7 hb1) hc0_7)
  have HB1 := Aside0.mk hb1
  clear hb1 hBW hcell7 hr0_7 hc0_7 hr0_10 hc0_10 hr0_15 hc0_15 hr0_16 hc0_16 hr0_17 hc0_17 h
  generalize l0_17.any (fun c => !(l0_7.any fun x => impl_GoalsHeld.p1 c x)) = q at hcon ⊢
  subst hW
  go_enter Try.func15, Try.ntmps15
  go_wp2_with (go_at_call 63; refine hcon.mono ?_; rintro e w' ⟨rfl, hb'⟩)
  go_ret
  exact ⟨rfl, below_then HB1.out HB1.out.size hb'⟩


/-! ### laws_eqIntS: function 31 -/
def laws_eqIntS.l0 : Nat → List Int → List Int → Int → Option (Bool)
  | 0, _, _, _ => none
  | k + 1, x0, x1, x5 => if x5 < (x0.length : Int) then (if 0 ≤ x5 then (if x5 < (x1.length : Int) then (if (rd x0 x5) = (rd x1 x5) then (laws_eqIntS.l0 k x0 x1 (wrap64 (x5 + 1))) else (none)) else (none)) else (none)) else (some true)
def laws_eqIntS.f (k : Nat) (l0 : List Int) (l1 : List Int) : Option (Bool) := if (l0.length : Int) = (l1.length : Int) then (laws_eqIntS.l0 k l0 l1 0) else (none)
theorem laws_eqIntS.mono_l : ∀ k, (∀ y0 y1 y2, LeO (laws_eqIntS.l0 k y0 y1 y2) (laws_eqIntS.l0 (k + 1) y0 y1 y2))
  | 0 => fun _ _ _ r h => by simp [laws_eqIntS.l0] at h
  | k + 1 => by
    have ih0 := laws_eqIntS.mono_l k
    · intro y0 y1 y2
      unfold laws_eqIntS.l0
      repeat' first
      | (with_reducible exact ih0 _ _ _)
      | (with_reducible exact LeO.refl _)
      | (with_reducible exact LeO.none _)
      | (with_reducible refine LeO.ite ?_ ?_)
      | (with_reducible refine LeO.bind ?_ (fun _ => ?_))
      | exact ih0 _ _ _
      | exact LeO.none _
      | refine LeO.ite ?_ ?_
      | refine LeO.bind ?_ (fun _ => ?_)
theorem laws_eqIntS.mono : ∀ a0 a1 k, LeO (laws_eqIntS.f k a0 a1) (laws_eqIntS.f (k + 1) a0 a1) := by
  intro a0 a1 k
  have ih0 := laws_eqIntS.mono_l k
  unfold laws_eqIntS.f
  repeat' first
      | (with_reducible exact ih0 _ _ _)
      | (with_reducible exact LeO.refl _)
      | (with_reducible exact LeO.none _)
      | (with_reducible refine LeO.ite ?_ ?_)
      | (with_reducible refine LeO.bind ?_ (fun _ => ?_))
      | exact ih0 _ _ _
      | exact LeO.none _
      | refine LeO.ite ?_ ?_
      | refine LeO.bind ?_ (fun _ => ?_)
set_option maxHeartbeats 8000000 in
set_option maxRecDepth 100000 in
theorem laws_eqIntS.calls (k : Nat) (A0 : Option Addr) (c0 : Nat) (l0 : List Int) (A1 : Option Addr) (c1 : Nat) (l1 : List Int) (r : Bool) (w : World) (hr0 : Kd.C (Kd.int .i64) w A0 l0.length l0) (hc0 : l0.length ≤ c0) (hr1 : Kd.C (Kd.int .i64) w A1 l1.length l1) (hc1 : l1.length ≤ c1) (h : laws_eqIntS.f k l0 l1 = some r) :
    Calls Try.prog 31 #[.slice A0 l0.length c0, .slice A1 l1.length c1] w fun e w' => e = .returned (.bool r) ∧ Drawn0 w w' := by
  have HR0 := Aside0.mk hr0
  have HC0 := Aside0.mk hc0
  clear hr0 hc0
  have HR1 := Aside0.mk hr1
  have HC1 := Aside0.mk hc1
  clear hr1 hc1
  have H : (if (l0.length : Int) = (l1.length : Int) then (laws_eqIntS.l0 k l0 l1 0) else (none)) = some r := h
  clear h
  by_cases c3 : (l0.length : Int) = (l1.length : Int)
  · rw [if_pos c3] at H
    have c3b0 : ((l0.length : Int) == (l1.length : Int)) = true := beq_iff_eq.mpr c3
    have c3b1 : ((l0.length : Int) != (l1.length : Int)) = false := bne_eq_false_iff_eq.mpr c3
    have c3b2 : (l0.length == l1.length) = true := by first | simpa using c3 | (simp at c3 ⊢; omega)
    clear c3
    have H' := Aside0.mk H
    clear H
    go_enter Try.func31, Try.ntmps31
    go_wp2
    repeat (go_quiet (fail); try go_wp2)
    go_loopg [5] k (fun kq v5 w' => ∃ (x5_1 : Int), v5 = .int .i64 x5_1 ∧ Aside0 (laws_eqIntS.l0 kq l0 l1 x5_1 = some r) ∧ Aside0 (kq ≤ k) ∧ Drawn0 w w')
    case atStart => exact ⟨(0), (by first | rfl | (simp; done) | (simp [*]; done)), H', ⟨Nat.le_refl _⟩, by repeat (first | exact Drawn0.refl _ | apply Drawn0.step)⟩
    case round =>
      clear H'
      try clear c1
      try clear p2
      try clear c3
      try clear c3b0
      try clear c3b1
      try clear c3b2
      obtain ⟨x5_1, rfl, HA, HK1, ⟨m1, rfl⟩⟩ := hrel
      cases gk with
      | zero => exact absurd HA.out (by simp [laws_eqIntS.l0])
      | succ k1 =>
        have H := HA.out
        clear HA
        simp only [laws_eqIntS.l0] at H
        by_cases c4 : x5_1 < (l0.length : Int)
        · rw [if_pos c4] at H
          have c4b0 : decide (x5_1 < (l0.length : Int)) = true := decide_eq_true c4
          clear c4
          by_cases c5 : 0 ≤ x5_1
          · rw [if_pos c5] at H
            have c5b0 : decide (0 ≤ x5_1) = true := decide_eq_true c5
            clear c5
            by_cases c6 : x5_1 < (l1.length : Int)
            · rw [if_pos c6] at H
              have c6b0 : decide (x5_1 < (l1.length : Int)) = true := decide_eq_true c6
              clear c6
              by_cases c7 : (rd l0 x5_1) = (rd l1 x5_1)
              · rw [if_pos c7] at H
                have c7b0 : ((rd l0 x5_1) == (rd l1 x5_1)) = true := beq_iff_eq.mpr c7
                have c7b1 : ((rd l0 x5_1) != (rd l1 x5_1)) = false := bne_eq_false_iff_eq.mpr c7
                clear c7
                have H' := Aside0.mk H
                clear H
                have p215 : 0 ≤ (x5_1 : Int) := of_decide_eq_true (by first | (with_reducible assumption) | assumption)
                have q215 : x5_1 < (l0.length : Int) := of_decide_eq_true (by first | (with_reducible assumption) | assumption)
                obtain ⟨ad215, e215, hx215_0⟩ := Kd.at_int HR0.out x5_1 p215 q215
                cases e215
                replace p215 := eq_true p215
                replace q215 := eq_true q215
                have p216 : 0 ≤ (x5_1 : Int) := of_decide_eq_true (by first | (with_reducible assumption) | assumption)
                have q216 : x5_1 < (l1.length : Int) := of_decide_eq_true (by first | (with_reducible assumption) | assumption)
                obtain ⟨ad216, e216, hx216_0⟩ := Kd.at_int HR1.out x5_1 p216 q216
                cases e216
                replace p216 := eq_true p216
                replace q216 := eq_true q216
                go_wp2
                repeat (go_quiet (fail); try go_wp2)
                go_roundg k1
                case measure => have := HK1.out; omega
                case rel => exact ⟨(wrap64 (x5_1 + 1)), (by first | rfl | (simp; done) | (simp [*]; done)), H', ⟨by have := HK1.out; omega⟩, by repeat (first | exact Drawn0.refl _ | apply Drawn0.step)⟩
              · rw [if_neg c7] at H
                exact absurd H (by simp)
            · rw [if_neg c6] at H
              exact absurd H (by simp)
          · rw [if_neg c5] at H
            exact absurd H (by simp)
        · rw [if_neg c4] at H
          have c4b0 : decide (x5_1 < (l0.length : Int)) = false := decide_eq_false c4
          clear c4
          obtain rfl := Option.some.inj H
          go_wp2
          repeat (go_quiet (fail); try go_wp2)
          go_ret
          exact ⟨by first | rfl | (simp; done) | (simp [*]; done), by repeat (first | exact Drawn0.refl _ | apply Drawn0.step)⟩
  · rw [if_neg c3] at H
    exact absurd H (by simp)

end Go.Proofs.Ytomchkdbhcakoaa.MFnExactGoalsHeld
