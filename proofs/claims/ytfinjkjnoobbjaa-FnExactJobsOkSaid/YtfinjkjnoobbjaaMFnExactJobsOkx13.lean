/- Made by a program of this session (out of the kit's print, with hand-made contracts): what each Go function that the law reaches computes, and that the machine's call does so. -/
import Derived.Test.YtfinjkjnoobbjaaMFnExactJobsOkx0
namespace Go.Proofs.Ytfinjkjnoobbjaa.MFnExactJobsOk
open Go.RowKit Go.Proofs.YtfinjkjnoobbjaaW.PrintWords Go.Proofs.YtfinjkjnoobbjaaW.PrintLast Go.Proofs.YtfinjkjnoobbjaaW.PrintMore
attribute [local go_sem] max2_int min2_int max_two min_two max_three min_three max_four min_four   -- for this text's walks alone
set_option linter.unusedVariables false
set_option linter.unusedSimpArgs false

/-! ### slices_MinFunc_Job: function 145 -/
open Go.Proofs.Ytfinjkjnoobbjaa.MyHof Go.Sort in
set_option maxHeartbeats 2000000 in
set_option maxRecDepth 100000 in
theorem slices_MinFunc_Job.hof (g : Nat) (lb : Array Value) (eg : ∀ args w, (callFunc g args).run Try.prog w = .ok (.enter g args) w) (A0 : Option Addr) (c0 : Nat) (l0 : List S141) (w : World) (hne : 0 < l0.length)
    (hr0 : Kd.C k141 w A0 l0.length l0) (hc0 : l0.length ≤ c0) (hp : CmpG Try.prog g lb (fun x : S141 => .agg #[.int .i64 x.f0, .int .i64 x.f1, .bool x.f2]) (fun x => x.f1) w) :
    Calls Try.prog 145 #[.slice A0 l0.length c0, .func (.func g) #[] lb] w fun e w' => ∃ m : S141, e = .returned (.agg #[.int .i64 m.f0, .int .i64 m.f1, .bool m.f2]) ∧ m = leastBy (fun x => x.f1) z141 l0 ∧ Below w.heap.size w w' := by
  have hbig : l0.length ≤ 9223372036854775807 := hr0.2.1
  have hu := Try.underlying141
  have mixed : Try.prog.follows .mixedOrders = true := by kernel_rfl
  have HR := Aside0.mk hr0
  have HP := Aside0.mk hp
  have HNE := Aside0.mk hne
  obtain ⟨ad, e, hx0, hx1, hx2⟩ := at_T141 hr0 0 (by omega) (by omega)
  cases e
  obtain ⟨v, hv⟩ : ∃ v, v = rd_T141 l0 0 := ⟨_, rfl⟩
  rw [← hv, show Int.toNat 0 * 3 = 0 from rfl, Addr.add_zero'] at hx0 hx1 hx2
  have HV := Aside0.mk hv
  have hd1 : decide ((l0.length : Int) < 1) = false := decide_eq_false (by omega)
  have hd2 : decide ((0 : Int) < (l0.length : Int)) = true := decide_eq_true (by omega)
  have hd3 : (0 : Int) < (l0.length : Int) := by omega
  clear hr0 hp hc0 hne hv
  go_enter Try.func145, Try.ntmps145
  go_wp2_with (first
    | ((with_reducible refine gate_dst (N := 4) rfl ?_); refine box_event ?hg (N := 4) ?hd (cs := #[.int .i64 0, .int .i64 0, .bool false]) (t := 141) ?hr ?_; (case hd => rfl); (case hg => rfl); (case hr => first | (go_simp; done) | (go_simp; rfl)); intro g4 hg4 w4 hbox4 hb4;
       replace hx0 := (hb4.cell (World.block_lt_of_cell? w _ hx0)).trans hx0; replace hx1 := (hb4.cell (World.block_lt_of_cell? w _ hx1)).trans hx1; replace hx2 := (hb4.cell (World.block_lt_of_cell? w _ hx2)).trans hx2; have HB4 := Aside0.mk hb4; have BK4 := Aside0.mk hbox4; have GE4 : Aside0 (w.heap.size ≤ g4) := ⟨by omega⟩; clear hb4 hbox4 hg4)
    | ((with_reducible refine gate_dst (N := 5) rfl ?_); refine box_event ?hg (N := 5) ?hd (cs := #[.int .i64 0, .int .i64 0, .bool false]) (t := 141) ?hr ?_; (case hd => rfl); (case hg => rfl); (case hr => first | (go_simp; done) | (go_simp; rfl)); intro g5 hg5 w5 hbox5 hb5;
       have NE5 : Aside0 (g4 ≠ g5) := ⟨by have := blk_lt BK4.out; omega⟩; have GE5 : Aside0 (w.heap.size ≤ g5) := ⟨by have := HB4.out.size; omega⟩; have HB5 := Aside0.mk (below_then HB4.out HB4.out.size hb5); have BK5 := Aside0.mk hbox5; have BK45 := Aside0.mk (bb BK4.out hb5); clear hb5 hbox5 hg5 hx0 hx1 hx2)
    | ((with_reducible refine gate_store (t := 141) (p := 5) rfl ?_); refine store_event (t := 141) (p := 5) (v := ?vo_w6) (w1 := ((w5.setCell ⟨g5, 0, none⟩ (.int .i64 v.f0)).setCell ⟨g5, 1, none⟩ (.int .i64 v.f1)).setCell ⟨g5, 2, none⟩ (.bool v.f2)) ?hg ?ho ?hn ?hr ?_; (case ho => rfl); (case hg => rfl); (case hn => rfl); (case hr => exact Go.Proofs.Ytfinjkjnoobbjaa.MyHof.exec_store_run [.int .i64 v.f0, .int .i64 v.f1, .bool v.f2] rfl rfl rfl BK5.out rfl (by kernel_rfl) (by simp) rfl rfl); intro w6 hw6;
       have HB6 : Aside0 (Below w.heap.size w w6) := ⟨by rw [hw6]; exact below_set3 HB5.out GE5.out⟩; have BK6 : Aside0 (w6.heap[g5]? = some (.cells #[.int .i64 v.f0, .int .i64 v.f1, .bool v.f2] 141 (0, 0))) := ⟨by rw [hw6]; exact blk_set3 BK5.out⟩; have BK46 : Aside0 (w6.heap[g4]? = some (.cells #[.int .i64 0, .int .i64 0, .bool false] 141 (0, 0))) := ⟨by rw [hw6]; exact blk_far3 BK45.out NE5.out⟩; clear hw6))
  go_loopg [6] l0.length (fun gg s6 wr => ∃ (x6 : Int) (m : S141), s6 = .int .i64 x6 ∧ Aside0 (1 ≤ x6 ∧ x6 ≤ l0.length) ∧ Aside0 (l0.length - x6.toNat ≤ gg) ∧ Aside0 (Below w.heap.size w wr) ∧ Aside0 (wr.heap[g4]? = some (.cells #[.int .i64 0, .int .i64 0, .bool false] 141 (0, 0))) ∧ Aside0 (wr.heap[g5]? = some (.cells #[.int .i64 m.f0, .int .i64 m.f1, .bool m.f2] 141 (0, 0))) ∧ Aside0 (m = leastBy (fun x => x.f1) z141 (l0.take x6.toNat)))
  case atStart => 
    refine ⟨1, v, rfl, ⟨by have := HNE.out; omega⟩, ⟨by omega⟩, HB6, BK46, BK6, ⟨?_⟩⟩
    rw [HV.out]
    cases l0 with
    | nil => exact absurd HNE.out (by simp)
    | cons x t => simp [leastBy, rd_T141]
  case round =>
    obtain ⟨x6, m, rfl, HX, HG, HB, BK4', BK5', HM⟩ := hrel
    clear BK4 BK5 BK45 HB4 HB5 HB6 BK6 BK46 HV
    by_cases hlt : x6 < (l0.length : Int)
    rotate_left
    · have HL := Aside0.mk hlt
      have hlt' : decide (x6 < (l0.length : Int)) = false := decide_eq_false hlt
      have hz0 : wr.cell? ⟨g5, 0, none⟩ = some (.int .i64 m.f0) := (bc BK5'.out 0).trans rfl
      have hz1 : wr.cell? ⟨g5, 1, none⟩ = some (.int .i64 m.f1) := (bc BK5'.out 1).trans rfl
      have hz2 : wr.cell? ⟨g5, 2, none⟩ = some (.bool m.f2) := (bc BK5'.out 2).trans rfl
      clear hlt
      go_wp2_with (first | ((with_reducible refine gate_store (t := 141) (p := 4) rfl ?_); refine store_event (t := 141) (p := 4) (v := ?vo_w9) (w1 := ((wr.setCell ⟨g4, 0, none⟩ (.int .i64 m.f0)).setCell ⟨g4, 1, none⟩ (.int .i64 m.f1)).setCell ⟨g4, 2, none⟩ (.bool m.f2)) ?hg ?ho ?hn ?hr ?_; (case ho => rfl); (case hg => rfl); (case hn => rfl); (case hr => exact Go.Proofs.Ytfinjkjnoobbjaa.MyHof.exec_store_run [.int .i64 m.f0, .int .i64 m.f1, .bool m.f2] rfl rfl rfl BK4'.out rfl (by kernel_rfl) (by simp) rfl rfl); intro w3 hw3; have HB3 : Aside0 (Below w.heap.size w w3) := ⟨by rw [hw3]; exact below_set3 HB.out GE4.out⟩; have BK43 : Aside0 (w3.heap[g4]? = some (.cells #[.int .i64 m.f0, .int .i64 m.f1, .bool m.f2] 141 (0, 0))) := ⟨by rw [hw3]; exact blk_set3 BK4'.out⟩; clear hw3; have hc0 : w3.cell? ⟨g4, 0, none⟩ = some (.int .i64 m.f0) := (bc BK43.out 0).trans rfl; have hc1 : w3.cell? ⟨g4, 1, none⟩ = some (.int .i64 m.f1) := (bc BK43.out 1).trans rfl; have hc2 : w3.cell? ⟨g4, 2, none⟩ = some (.bool m.f2) := (bc BK43.out 2).trans rfl))
      refine bodyPost_ret (results_cell_row rfl _ _ g4 141 #[.int .i64 m.f0, .int .i64 m.f1, .bool m.f2] (0, 0) _ rfl BK43.out hu rfl (by kernel_rfl)) rfl ?_
      refine ⟨m, rfl, ?_, HB3.out⟩
      have : x6.toNat = l0.length := by have := HL.out; have := HX.out; omega
      rw [HM.out, this, List.take_length]
    have h0 : 0 ≤ x6 := by have := HX.out; omega
    have hn : x6.toNat < l0.length := by omega
    obtain ⟨ad', e, hx0, hx1, hx2⟩ := at_T141 HR.out x6 h0 hlt
    injection e with e
    subst e
    have hv0 : rd_T141 l0 x6 = l0[x6.toNat] := by simp [rd_T141, List.getD, hn]
    obtain ⟨u, hu0⟩ : ∃ u, u = rd_T141 l0 x6 := ⟨_, rfl⟩
    rw [← hu0] at hx0 hx1 hx2
    have hB := HB.out
    have b0 := World.block_lt_of_cell? w _ hx0
    have hbl : ∀ {p : Addr} {q : Value}, w.cell? p = some q → ∀ n os, (grow (wr.drewN n) os).cell? p = some q := fun h n os =>
      ((below_then hB hB.size (below_growN wr n os)).cell (World.block_lt_of_cell? w _ h)).trans h
    have hy0 := hbl hx0
    have hy1 := hbl hx1
    have hy2 := hbl hx2
    have bk : ∀ n os, (grow (wr.drewN n) os).heap[g5]? = some (.cells #[.int .i64 m.f0, .int .i64 m.f1, .bool m.f2] 141 (0, 0)) := fun n os => bb BK5'.out (below_growN wr n os)
    have hz0 : ∀ n os, (grow (wr.drewN n) os).cell? ⟨g5, 0, none⟩ = some (.int .i64 m.f0) := fun n os => (bc (bk n os) 0).trans rfl
    have hz1 : ∀ n os, (grow (wr.drewN n) os).cell? ⟨g5, 1, none⟩ = some (.int .i64 m.f1) := fun n os => (bc (bk n os) 1).trans rfl
    have hz2 : ∀ n os, (grow (wr.drewN n) os).cell? ⟨g5, 2, none⟩ = some (.bool m.f2) := fun n os => (bc (bk n os) 2).trans rfl
    have hcall : ∀ n os, Calls Try.prog g (#[.agg #[.int .i64 u.f0, .int .i64 u.f1, .bool u.f2], .agg #[.int .i64 m.f0, .int .i64 m.f1, .bool m.f2]] ++ lb) (grow (wr.drewN n) os) fun e w' => e = .returned (.int .i64 (cmpI u.f1 m.f1)) ∧ ∃ q os', w' = grow ((grow (wr.drewN n) os).drewN q) os' := fun n os => HP.out (grow (wr.drewN n) os) u m (below_then hB hB.size (below_growN wr n os))
    have HN := Aside0.mk hn
    have HL := Aside0.mk hlt
    have HU : Aside0 (u = l0[x6.toNat]'hn) := ⟨hu0.trans hv0⟩
    have hlt'' : decide (x6 < (l0.length : Int)) = true := decide_eq_true hlt
    have h0'' : decide (0 ≤ x6) = true := decide_eq_true h0
    have HBB := Aside0.mk hB
    clear hv0 hu0 hbl bk hB hx0 hx1 hx2 b0
    have hw : wrap64 (x6 + 1) = x6 + 1 := by unfold wrap64; omega
    have HW := Aside0.mk hw
    have et : (x6 + 1).toNat = x6.toNat + 1 := by omega
    have ET := Aside0.mk et
    have etk : l0.take (x6.toNat + 1) = l0.take x6.toNat ++ [u] := by rw [List.take_succ_eq_append_getElem hn, HU.out]
    have ene : l0.take x6.toNat ≠ [] := by
      intro h
      have := congrArg List.length h
      rw [List.length_take, List.length_nil] at this
      have := HX.out
      omega
    have HM2 : Aside0 (leastBy (fun x => x.f1) z141 (l0.take (x6 + 1).toNat) = if u.f1 < m.f1 then u else m) := ⟨by rw [et, etk, leastBy_snoc _ _ _ _ ene, ← HM.out]⟩
    clear etk ene et hw
    clear HU
    clear hn
    cases hq : decide (cmpI u.f1 m.f1 < 0) with
    | true =>
      have HQ : Aside0 (u.f1 < m.f1) := ⟨by have := of_decide_eq_true hq; unfold cmpI at this; split at this <;> (try split at this) <;> omega⟩
      generalize cmpI u.f1 m.f1 = q at hcall hq
      go_wp2_with fail
      go_quiet_grown (first | (go_at_fn g; refine Calls.grown_of (hcall _ _)))
      have HB2 : Aside0 (Below w.heap.size w (grow (wr.drewN nq) osq)) := ⟨below_then HBB.out HBB.out.size (below_growN wr nq osq)⟩
      have BK42 : Aside0 ((grow (wr.drewN nq) osq).heap[g4]? = some (.cells #[.int .i64 0, .int .i64 0, .bool false] 141 (0, 0))) := ⟨bb BK4'.out (below_growN wr nq osq)⟩
      have BK52 : Aside0 ((grow (wr.drewN nq) osq).heap[g5]? = some (.cells #[.int .i64 m.f0, .int .i64 m.f1, .bool m.f2] 141 (0, 0))) := ⟨bb BK5'.out (below_growN wr nq osq)⟩
      replace hy0 := hy0 nq osq
      replace hy1 := hy1 nq osq
      replace hy2 := hy2 nq osq
      clear hz0 hz1 hz2 hcall HBB HB BK4' BK5'
      show Exit.then _ _ _ _ (grow (wr.drewN nq) osq)
      generalize grow (wr.drewN nq) osq = w2 at hy0 hy1 hy2 HB2 BK42 BK52 ⊢
      go_wp2_with (first | ((with_reducible refine gate_store (t := 141) (p := 5) rfl ?_); refine store_event (t := 141) (p := 5) (v := ?vo_w3) (w1 := ((w2.setCell ⟨g5, 0, none⟩ (.int .i64 u.f0)).setCell ⟨g5, 1, none⟩ (.int .i64 u.f1)).setCell ⟨g5, 2, none⟩ (.bool u.f2)) ?hg ?ho ?hn ?hr ?_; (case ho => rfl); (case hg => rfl); (case hn => rfl); (case hr => exact Go.Proofs.Ytfinjkjnoobbjaa.MyHof.exec_store_run [.int .i64 u.f0, .int .i64 u.f1, .bool u.f2] rfl rfl rfl BK52.out rfl (by kernel_rfl) (by simp) rfl rfl); intro w3 hw3; have HB3 : Aside0 (Below w.heap.size w w3) := ⟨by rw [hw3]; exact below_set3 HB2.out GE5.out⟩; have BK53 : Aside0 (w3.heap[g5]? = some (.cells #[.int .i64 u.f0, .int .i64 u.f1, .bool u.f2] 141 (0, 0))) := ⟨by rw [hw3]; exact blk_set3 BK52.out⟩; have BK43 : Aside0 (w3.heap[g4]? = some (.cells #[.int .i64 0, .int .i64 0, .bool false] 141 (0, 0))) := ⟨by rw [hw3]; exact blk_far3 BK42.out NE5.out⟩; clear hw3))
      go_roundg (l0.length - (x6.toNat + 1))
      case measure => have := HN.out; have := HG.out; omega
      case rel =>
        refine ⟨x6 + 1, u, by first | rfl | (rw [HW.out]) | simp [HW.out], ⟨by have := HL.out; have := HX.out; omega⟩, ⟨by have := HX.out; omega⟩, HB3, BK43, BK53, ⟨?_⟩⟩
        rw [HM2.out, if_pos HQ.out]
    | false =>
      have HQ : Aside0 (¬ u.f1 < m.f1) := ⟨by intro h; have := of_decide_eq_false hq; unfold cmpI at this; rw [if_pos h] at this; omega⟩
      generalize cmpI u.f1 m.f1 = q at hcall hq
      go_wp2_with fail
      go_quiet_grown (first | (go_at_fn g; refine Calls.grown_of (hcall _ _)))
      have HB2 : Aside0 (Below w.heap.size w (grow (wr.drewN nq) osq)) := ⟨below_then HBB.out HBB.out.size (below_growN wr nq osq)⟩
      have BK42 : Aside0 ((grow (wr.drewN nq) osq).heap[g4]? = some (.cells #[.int .i64 0, .int .i64 0, .bool false] 141 (0, 0))) := ⟨bb BK4'.out (below_growN wr nq osq)⟩
      have BK52 : Aside0 ((grow (wr.drewN nq) osq).heap[g5]? = some (.cells #[.int .i64 m.f0, .int .i64 m.f1, .bool m.f2] 141 (0, 0))) := ⟨bb BK5'.out (below_growN wr nq osq)⟩
      replace hy0 := hy0 nq osq
      replace hy1 := hy1 nq osq
      replace hy2 := hy2 nq osq
      clear hz0 hz1 hz2 hcall HBB HB BK4' BK5'
      show Exit.then _ _ _ _ (grow (wr.drewN nq) osq)
      generalize grow (wr.drewN nq) osq = w2 at hy0 hy1 hy2 HB2 BK42 BK52 ⊢
      go_wp2
      go_roundg (l0.length - (x6.toNat + 1))
      case measure => have := HN.out; have := HG.out; omega
      case rel =>
        refine ⟨x6 + 1, m, by first | rfl | (rw [HW.out]) | simp [HW.out], ⟨by have := HL.out; have := HX.out; omega⟩, ⟨by have := HX.out; omega⟩, HB2, BK42, BK52, ⟨?_⟩⟩
        rw [HM2.out, if_neg (by have := HQ.out; omega)]

/-! ### impl_LayerOf: function 104 -/
open Go.Proofs.Ytfinjkjnoobbjaa.MyHof in
def impl_LayerOf.f (a0_0 : Int) (a0_1 : Int) (a0_2 : ByteArray) (a0_3 : Int) (a0_4 : Int) (a0_5 : Int) (a0_6 : Int) (l0_7 : List (S84)) (a0_8 : Int) (a0_9 : Int) (l0_10 : List Int) (a0_11 : Int) (a0_12 : Bool) (a0_13 : Int) (a0_14 : Int) (l0_15 : List (S143)) (l0_16 : List (S141)) (l0_17 : List Int) : Option (Int) :=
  some (if l0_16.length = 0 then -1 else (leastBy (fun x : S141 => x.f1) z141 l0_16).f1)
open Go.Proofs.Ytfinjkjnoobbjaa.MyHof in
theorem impl_LayerOf.cmp (a b : Int) (W : World) : Calls Try.prog 147 #[.int .i64 a, .int .i64 b] W fun e w' => e = .returned (.int .i64 (cmpI a b)) ∧ w' = W := by
  unfold cmpI
  by_cases h1 : a < b
  · rw [if_pos h1]
    go_enter Try.func147, Try.ntmps147
    go_wp2
    go_ret
    exact ⟨rfl, rfl⟩
  rw [if_neg h1]
  by_cases h2 : a > b
  · rw [if_pos h2]
    have h2' : b < a := h2
    go_enter Try.func147, Try.ntmps147
    go_wp2
    go_ret
    exact ⟨rfl, rfl⟩
  rw [if_neg h2]
  have h2' : ¬ b < a := h2
  go_enter Try.func147, Try.ntmps147
  go_wp2
  go_ret
  exact ⟨rfl, rfl⟩
open Go.Proofs.Ytfinjkjnoobbjaa.MyHof Go.Sort in
set_option maxHeartbeats 2000000 in
theorem impl_LayerOf.closure (w : World) : CmpG Try.prog 146 #[] (fun x : S141 => .agg #[.int .i64 x.f0, .int .i64 x.f1, .bool x.f2]) (fun x => x.f1) w := fun W x y _ => by
  have hu := Try.underlying141
  have hcon := impl_LayerOf.cmp x.f1 y.f1 ((W.alloc (.cells #[.int .i64 x.f0, .int .i64 x.f1, .bool x.f2] 141)).alloc (.cells #[.int .i64 y.f0, .int .i64 y.f1, .bool y.f2] 141))
  show Calls Try.prog 146 #[.agg #[.int .i64 x.f0, .int .i64 x.f1, .bool x.f2], .agg #[.int .i64 y.f0, .int .i64 y.f1, .bool y.f2]] W fun e w' => e = .returned (.int .i64 (cmpI x.f1 y.f1)) ∧ ∃ q os', w' = grow (W.drewN q) os'
  generalize cmpI x.f1 y.f1 = q at hcon ⊢
  go_enter Try.func146, Try.ntmps146
  go_wp2_with (go_at_call 147; refine hcon.mono ?_; rintro e w' ⟨rfl, rfl⟩)
  go_ret
  refine ⟨rfl, 0, #[.cells #[.int .i64 x.f0, .int .i64 x.f1, .bool x.f2] 141, .cells #[.int .i64 y.f0, .int .i64 y.f1, .bool y.f2] 141], ?_⟩
  rw [alloc_eq_grow, alloc_eq_grow, grow_grow]
  rfl
open Go.Proofs.Ytfinjkjnoobbjaa.MyHof in
set_option maxHeartbeats 4000000 in
set_option maxRecDepth 100000 in
theorem impl_LayerOf.calls (a0_0 : Int) (a0_1 : Int) (a0_2 : ByteArray) (a0_3 : Int) (a0_4 : Int) (a0_5 : Int) (a0_6 : Int) (A0_7 : Option Addr) (c0_7 : Nat) (l0_7 : List (S84)) (a0_8 : Int) (a0_9 : Int) (A0_10 : Option Addr) (c0_10 : Nat) (l0_10 : List Int) (a0_11 : Int) (a0_12 : Bool) (a0_13 : Int) (a0_14 : Int) (A0_15 : Option Addr) (c0_15 : Nat) (l0_15 : List (S143)) (A0_16 : Option Addr) (c0_16 : Nat) (l0_16 : List (S141)) (A0_17 : Option Addr) (c0_17 : Nat) (l0_17 : List Int) (r : Int) (w : World) (hr0_7 : Kd.C k84 w A0_7 l0_7.length l0_7) (hc0_7 : l0_7.length ≤ c0_7) (hr0_10 : Kd.C (Kd.int .i64) w A0_10 l0_10.length l0_10) (hc0_10 : l0_10.length ≤ c0_10) (hr0_15 : Kd.C k143 w A0_15 l0_15.length l0_15) (hc0_15 : l0_15.length ≤ c0_15) (hr0_16 : Kd.C k141 w A0_16 l0_16.length l0_16) (hc0_16 : l0_16.length ≤ c0_16) (hr0_17 : Kd.C (Kd.int .i64) w A0_17 l0_17.length l0_17) (hc0_17 : l0_17.length ≤ c0_17) (h : impl_LayerOf.f a0_0 a0_1 a0_2 a0_3 a0_4 a0_5 a0_6 l0_7 a0_8 a0_9 l0_10 a0_11 a0_12 a0_13 a0_14 l0_15 l0_16 l0_17 = some r) :
    Calls Try.prog 104 #[.agg #[.int .i64 a0_0, .int .i64 a0_1, .string a0_2, .int .i64 a0_3, .int .i64 a0_4, .int .i64 a0_5, .int .i64 a0_6, .slice A0_7 l0_7.length c0_7, .int .i64 a0_8, .int .i64 a0_9, .slice A0_10 l0_10.length c0_10, .int .i64 a0_11, .bool a0_12, .int .i64 a0_13, .int .i64 a0_14, .slice A0_15 l0_15.length c0_15, .slice A0_16 l0_16.length c0_16, .slice A0_17 l0_17.length c0_17]] w fun e w' => e = .returned (.int .i64 r) ∧ Below w.heap.size w w' := by
  obtain rfl := Option.some.inj h
  have hu := Try.underlying39
  have huj := Try.underlying141
  have eg : ∀ args w, (callFunc 146 args).run Try.prog w = .ok (.enter 146 args) w := enters_of Try.func146 (by kernel_rfl) rfl
  obtain ⟨W, hW⟩ : ∃ W, W = w.alloc (.cells #[.int .i64 a0_0, .int .i64 a0_1, .string a0_2, .int .i64 a0_3, .int .i64 a0_4, .int .i64 a0_5, .int .i64 a0_6, .slice A0_7 l0_7.length c0_7, .int .i64 a0_8, .int .i64 a0_9, .slice A0_10 l0_10.length c0_10, .int .i64 a0_11, .bool a0_12, .int .i64 a0_13, .int .i64 a0_14, .slice A0_15 l0_15.length c0_15, .slice A0_16 l0_16.length c0_16, .slice A0_17 l0_17.length c0_17] 39) := ⟨_, rfl⟩
  have hb1 : Below w.heap.size w W := by rw [hW]; exact wa (Below.refl _ w) _
  by_cases hz : l0_16.length = 0
  · rw [if_pos hz]
    have HB1 := Aside0.mk hb1
    have hz' : decide ((l0_16.length : Int) = 0) = true := decide_eq_true (by omega)
    have hz'' : ((l0_16.length : Int) = 0) := by omega
    clear hb1 hr0_7 hc0_7 hr0_10 hc0_10 hr0_15 hc0_15 hr0_16 hc0_16 hr0_17 hc0_17 h
    subst hW
    go_enter Try.func104, Try.ntmps104
    go_wp2
    go_ret
    exact ⟨rfl, wa (Below.refl _ w) _⟩
  rw [if_neg hz]
  have hcon := slices_MinFunc_Job.hof 146 #[] eg A0_16 c0_16 l0_16 W (by omega) (Kd.C_below hr0_16 hb1) hc0_16 (impl_LayerOf.closure W)
  have HB1 := Aside0.mk hb1
  have hz' : decide ((l0_16.length : Int) = 0) = false := decide_eq_false (by omega)
  have hz'' : ¬ ((l0_16.length : Int) = 0) := by omega
  clear hb1 hr0_7 hc0_7 hr0_10 hc0_10 hr0_15 hc0_15 hr0_16 hc0_16 hr0_17 hc0_17 h hz
  generalize leastBy (fun x : S141 => x.f1) z141 l0_16 = q at hcon ⊢
  subst hW
  have hfd : ∀ (a b : Int) (c : Bool) (w : World), (Instr.field 141 (.agg #[.int .i64 a, .int .i64 b, .bool c]) 1).run Try.prog w = .ok (.int .i64 b) w := fun _ _ _ _ => by kernel_rfl
  go_enter Try.func104, Try.ntmps104
  go_wp2_with (go_at_call 145; refine hcon.mono ?_; rintro e w' ⟨m, rfl, rfl, hb'⟩)
  go_ret
  exact ⟨rfl, below_then HB1.out HB1.out.size hb'⟩

/-! ### slices_IndexFunc_Way: function 153 -/
open Go.Proofs.Ytfinjkjnoobbjaa.MyHof in
set_option maxHeartbeats 2000000 in
set_option maxRecDepth 100000 in
theorem slices_IndexFunc_Way.hof (g : Nat) (lb : Array Value) (eg : ∀ args w, (callFunc g args).run Try.prog w = .ok (.enter g args) w) (p : S143 → Bool) (A0 : Option Addr) (c0 : Nat) (l0 : List S143) (w : World)
    (hr0 : Kd.C k143 w A0 l0.length l0) (hc0 : l0.length ≤ c0) (hp : PredR Try.prog g lb k143 p l0 w) :
    Calls Try.prog 153 #[.slice A0 l0.length c0, .func (.func g) #[] lb] w fun e w' => e = .returned (.int .i64 (idxOf p l0)) ∧ Below w.heap.size w w' := by
  have hbig : l0.length ≤ 9223372036854775807 := hr0.2.1
  have hu := Try.underlying143
  have HR := Aside0.mk hr0
  have HP := Aside0.mk hp
  clear hr0 hp hc0
  go_enter Try.func153, Try.ntmps153
  go_wp2
  go_loopg [5, 8] l0.length (fun gg _ s8 wr => ∃ x8 : Int, s8 = .int .i64 x8 ∧ Aside0 (0 ≤ x8 ∧ x8 ≤ l0.length) ∧ Aside0 (l0.length - x8.toNat ≤ gg) ∧ Aside0 (Below w.heap.size w wr) ∧ Aside0 (∀ x ∈ l0.take x8.toNat, p x = false))
  case atStart => exact ⟨0, rfl, ⟨by omega⟩, ⟨by omega⟩, ⟨Below.refl _ w⟩, ⟨fun x hx => by simp at hx⟩⟩
  case round =>
    obtain ⟨x8, rfl, HX, HG, HB, HA⟩ := hrel
    by_cases hlt : x8 < (l0.length : Int)
    rotate_left
    · have HL := Aside0.mk hlt
      have hlt' : decide (x8 < (l0.length : Int)) = false := decide_eq_false hlt
      clear hlt
      go_wp2
      go_ret
      refine ⟨?_, HB.out⟩
      have : x8.toNat = l0.length := by have := HL.out; have := HX.out; omega
      rw [idxOf_miss (by have h := HA.out; rw [this, List.take_length] at h; exact h)]
      rfl
    have h0 := HX.out.1
    have hn : x8.toNat < l0.length := by omega
    obtain ⟨ad, A1, c1, e, hx0, hl, hi⟩ := at_T143 HR.out x8 h0 hlt
    cases e
    have hv0 : rd_T143 l0 x8 = l0[x8.toNat] := by simp [rd_T143, List.getD, hn]
    rw [hv0] at hx0 hl hi
    replace hx0 := (HB.out.cell (World.block_lt_of_cell? w _ hx0)).trans hx0
    have hcall := HP.out _ (l0[x8.toNat]) [.slice A1 (l0[x8.toNat]).f0.length c1] (List.getElem_mem hn) HB.out (k143_mk w _ hl hi)
    have HN := Aside0.mk hn
    have HL := Aside0.mk hlt
    have hlt' := eq_true hlt
    have hlt'' : decide (x8 < (l0.length : Int)) = true := decide_eq_true hlt
    have h0'' : decide (0 ≤ x8) = true := decide_eq_true h0
    have h0' := eq_true h0
    obtain ⟨v, hv⟩ : ∃ v, v = l0[x8.toNat] := ⟨_, rfl⟩
    rw [← hv] at hx0 hcall
    have HVV : Aside0 (∀ h : x8.toNat < l0.length, l0[x8.toNat] = v) := ⟨fun _ => hv.symm⟩
    clear hv hv0 hlt h0 hn hl hi
    cases hq : p v with
    | true =>
      have HQ := Aside0.mk hq
      rw [hq] at hcall
      clear hq
      go_wp2_with (go_at_fn g; refine hcall.mono ?_; rintro e w' ⟨rfl, hb'⟩)
      go_ret
      refine ⟨?_, hb'⟩
      have e8 : ((x8.toNat : Nat) : Int) = x8 := by have := HX.out; omega
      rw [idxOf_hit HN.out (by rw [HVV.out HN.out]; exact HQ.out) HA.out, e8]
      rfl
    | false =>
      have HQ := Aside0.mk hq
      rw [hq] at hcall
      clear hq
      go_wp2_with (go_at_fn g; refine hcall.mono ?_; rintro e w' ⟨rfl, hb'⟩)
      have hw : wrap64 (x8 + 1) = x8 + 1 := by have := HL.out; have := HX.out; unfold wrap64; omega
      go_roundg (l0.length - (x8.toNat + 1))
      case measure => have := HN.out; have := HG.out; omega
      case rel =>
        refine ⟨x8 + 1, by first | rfl | (rw [hw]) | simp [hw], ⟨by have := HL.out; have := HX.out; omega⟩, ⟨by have := HX.out; omega⟩, ⟨hb'⟩, ⟨?_⟩⟩
        have e1 : (x8 + 1).toNat = x8.toNat + 1 := by have := HX.out; omega
        rw [e1]
        exact take_snoc_all HN.out HA.out (by rw [HVV.out HN.out]; exact HQ.out)

/-! ### slices_ContainsFunc_Way: function 119 -/
open Go.Proofs.Ytfinjkjnoobbjaa.MyHof in
set_option maxHeartbeats 1000000 in
theorem slices_ContainsFunc_Way.hof (g : Nat) (lb : Array Value) (eg : ∀ args w, (callFunc g args).run Try.prog w = .ok (.enter g args) w) (p : S143 → Bool) (A0 : Option Addr) (c0 : Nat) (l0 : List S143) (w : World)
    (hr0 : Kd.C k143 w A0 l0.length l0) (hc0 : l0.length ≤ c0) (hp : PredR Try.prog g lb k143 p l0 w) :
    Calls Try.prog 119 #[.slice A0 l0.length c0, .func (.func g) #[] lb] w fun e w' => e = .returned (.bool (l0.any p)) ∧ Below w.heap.size w w' := by
  have hcon := slices_IndexFunc_Way.hof g lb eg p A0 c0 l0 w hr0 hc0 hp
  have hany := idxOf_any p l0
  have HA := Aside0.mk hany
  clear hany hr0 hc0 hp
  generalize idxOf p l0 = r at hcon HA
  rw [← HA.out]
  clear HA
  go_enter Try.func119, Try.ntmps119
  go_wp2_with (go_at_call 153; refine hcon.mono ?_; rintro e w' ⟨rfl, hb'⟩)
  go_ret
  exact ⟨rfl, hb'⟩


/-! ### impl_jobsOk_1: function 120 -/
def impl_jobsOk_1.p (c : Int) (x : S143) : Bool := (x.f0.length : Int) != wrap64 (c + 1)
def impl_jobsOk_1.f (l0 : List S143) (a1_0 : Int) (a1_1 : Int) (l1_2 : List S143) : Option Bool := some (l0.any (impl_jobsOk_1.p a1_0))
open Go.Proofs.Ytfinjkjnoobbjaa.MyHof in
set_option maxHeartbeats 2000000 in
set_option maxRecDepth 100000 in
theorem impl_jobsOk_1.inner (c : Int) (g1 : Nat) (l : List S143) (w : World) (hcell : w.cell? ⟨g1, 0, none⟩ = some (.int .i64 c)) :
    PredR Try.prog 120 #[.pointer (some ⟨g1, 0, none⟩)] k143 (impl_jobsOk_1.p c) l w := fun W x cs _ hb hK => by
  have hB : g1 < w.heap.size := World.block_lt_of_cell? w _ hcell
  have hc : W.cell? ⟨g1, 0, none⟩ = some (.int .i64 c) := (hb.cell (p := ⟨g1, 0, none⟩) hB).trans hcell
  have hBW : g1 < W.heap.size := Nat.lt_of_lt_of_le hB hb.size
  have hne : g1 ≠ W.heap.size := by have := hb.size; omega
  have hu := Try.underlying143
  have hup := Try.underlying36
  obtain ⟨A, cp, rfl, hl, hC⟩ := k143_open hK
  show Calls Try.prog 120 #[.agg #[.slice A x.f0.length cp], .pointer (some ⟨g1, 0, none⟩)] W fun e w' => e = .returned (.bool (impl_jobsOk_1.p c x)) ∧ Below w.heap.size w w'
  unfold impl_jobsOk_1.p
  cases h1 : ((x.f0.length : Int) != wrap64 (c + 1))
  · go_enter Try.func120, Try.ntmps120
    go_wp2
    go_ret
    exact ⟨by first | rfl | simp_all, hb.alloc hb.size _⟩
  · go_enter Try.func120, Try.ntmps120
    go_wp2
    go_ret
    exact ⟨by first | rfl | simp_all, hb.alloc hb.size _⟩
theorem impl_jobsOk_1.calls (A0 : Option Addr) (c0 : Nat) (l0 : List S143) (a1_0 a1_1 : Int) (A1 : Option Addr) (c1 : Nat) (l1 : List S143) (r : Bool) (w : World) {g1 : Nat} (hb1 : w.heap[g1]? = some (.cells #[.int .i64 a1_0, .int .i64 a1_1, .slice A1 l1.length c1] 36 (0, 0)))
    (hr0 : Kd.C k143 w A0 l0.length l0) (hc0 : l0.length ≤ c0) (hr1 : Kd.C k143 w A1 l1.length l1) (hc1 : l1.length ≤ c1) (h : impl_jobsOk_1.f l0 a1_0 a1_1 l1 = some r) :
    Calls Try.prog 119 #[.slice A0 l0.length c0, .func (.func 120) #[] #[.pointer (some ⟨g1, 0, none⟩)]] w fun e w' => e = .returned (.bool r) ∧ Below w.heap.size w w' := by
  obtain rfl := Option.some.inj h
  exact slices_ContainsFunc_Way.hof 120 _ (enters_of Try.func120 (by kernel_rfl) rfl) _ A0 c0 l0 w hr0 hc0 (impl_jobsOk_1.inner a1_0 g1 l0 w ((bc hb1 0).trans rfl))


/-! ### slices_IndexFunc_Robot: function 100 -/
open Go.Proofs.Ytfinjkjnoobbjaa.MyHof in
set_option maxHeartbeats 2000000 in
set_option maxRecDepth 100000 in
theorem slices_IndexFunc_Robot.hof (g : Nat) (lb : Array Value) (eg : ∀ args w, (callFunc g args).run Try.prog w = .ok (.enter g args) w) (p : S84 → Bool) (A0 : Option Addr) (c0 : Nat) (l0 : List S84) (w : World)
    (hr0 : Kd.C k84 w A0 l0.length l0) (hc0 : l0.length ≤ c0) (hp : PredB Try.prog g lb (fun x : S84 => .agg #[.int .i64 x.f0, .int .i64 x.f1, .int .i64 x.f2, .bool x.f3]) p l0 w) :
    Calls Try.prog 100 #[.slice A0 l0.length c0, .func (.func g) #[] lb] w fun e w' => e = .returned (.int .i64 (idxOf p l0)) ∧ Below w.heap.size w w' := by
  have hbig : l0.length ≤ 9223372036854775807 := hr0.2.1
  have hu := Try.underlying84
  have HR := Aside0.mk hr0
  have HP := Aside0.mk hp
  clear hr0 hp hc0
  go_enter Try.func100, Try.ntmps100
  go_wp2
  go_loopg [5, 8] l0.length (fun gg _ s8 wr => ∃ x8 : Int, s8 = .int .i64 x8 ∧ Aside0 (0 ≤ x8 ∧ x8 ≤ l0.length) ∧ Aside0 (l0.length - x8.toNat ≤ gg) ∧ Aside0 (Below w.heap.size w wr) ∧ Aside0 (∀ x ∈ l0.take x8.toNat, p x = false))
  case atStart => exact ⟨0, rfl, ⟨by omega⟩, ⟨by omega⟩, ⟨Below.refl _ w⟩, ⟨fun x hx => by simp at hx⟩⟩
  case round =>
    obtain ⟨x8, rfl, HX, HG, HB, HA⟩ := hrel
    by_cases hlt : x8 < (l0.length : Int)
    rotate_left
    · have HL := Aside0.mk hlt
      have hlt' : decide (x8 < (l0.length : Int)) = false := decide_eq_false hlt
      clear hlt
      go_wp2
      go_ret
      refine ⟨?_, HB.out⟩
      have : x8.toNat = l0.length := by have := HL.out; have := HX.out; omega
      rw [idxOf_miss (by have h := HA.out; rw [this, List.take_length] at h; exact h)]
      rfl
    have h0 := HX.out.1
    have hn : x8.toNat < l0.length := by omega
    obtain ⟨ad, e, hx0, hx1, hx2, hx3⟩ := at_T84 HR.out x8 h0 hlt
    cases e
    replace hx0 := (HB.out.cell (World.block_lt_of_cell? w _ hx0)).trans hx0
    replace hx1 := (HB.out.cell (World.block_lt_of_cell? w _ hx1)).trans hx1
    replace hx2 := (HB.out.cell (World.block_lt_of_cell? w _ hx2)).trans hx2
    replace hx3 := (HB.out.cell (World.block_lt_of_cell? w _ hx3)).trans hx3
    have hcall := HP.out _ (l0[x8.toNat]) (List.getElem_mem hn) HB.out
    have HN := Aside0.mk hn
    have HL := Aside0.mk hlt
    have hv0 : rd_T84 l0 x8 = l0[x8.toNat] := by simp [rd_T84, List.getD, hn]
    have hlt' := eq_true hlt
    have hlt'' : decide (x8 < (l0.length : Int)) = true := decide_eq_true hlt
    have h0'' : decide (0 ≤ x8) = true := decide_eq_true h0
    have h0' := eq_true h0
    rw [← hv0] at hcall
    obtain ⟨v, hv⟩ : ∃ v, v = rd_T84 l0 x8 := ⟨_, rfl⟩
    rw [← hv] at hx0 hx1 hx2 hx3 hcall
    have HVV : Aside0 (∀ h : x8.toNat < l0.length, l0[x8.toNat] = v) := ⟨fun _ => by rw [hv, hv0]⟩
    clear hv hv0 hlt h0 hn
    cases hq : p v with
    | true =>
      have HQ := Aside0.mk hq
      rw [hq] at hcall
      clear hq
      go_wp2_with (go_at_fn g; refine hcall.mono ?_; rintro e w' ⟨rfl, hb'⟩)
      go_ret
      refine ⟨?_, hb'⟩
      have e8 : ((x8.toNat : Nat) : Int) = x8 := by have := HX.out; omega
      rw [idxOf_hit HN.out (by rw [HVV.out HN.out]; exact HQ.out) HA.out, e8]
      rfl
    | false =>
      have HQ := Aside0.mk hq
      rw [hq] at hcall
      clear hq
      go_wp2_with (go_at_fn g; refine hcall.mono ?_; rintro e w' ⟨rfl, hb'⟩)
      have hw : wrap64 (x8 + 1) = x8 + 1 := by have := HL.out; have := HX.out; unfold wrap64; omega
      go_roundg (l0.length - (x8.toNat + 1))
      case measure => have := HN.out; have := HG.out; omega
      case rel =>
        refine ⟨x8 + 1, by first | rfl | (rw [hw]) | simp [hw], ⟨by have := HL.out; have := HX.out; omega⟩, ⟨by have := HX.out; omega⟩, ⟨hb'⟩, ⟨?_⟩⟩
        have e1 : (x8 + 1).toNat = x8.toNat + 1 := by have := HX.out; omega
        rw [e1]
        exact take_snoc_all HN.out HA.out (by rw [HVV.out HN.out]; exact HQ.out)

end Go.Proofs.Ytfinjkjnoobbjaa.MFnExactJobsOk
