/- Made by a program of this session (out of the kit's print, with hand-made contracts): what each Go function that the law reaches computes, and that the machine's call does so. -/
import Derived.Test.YtaddjeoncbmohaaMFnExactFootprintx0
import Derived.Test.YtaddjeoncbmohaaMFnExactFootprintx8
import Derived.Test.YtaddjeoncbmohaaMFnExactFootprintx9
namespace Go.Proofs.Ytaddjeoncbmohaa.MFnExactFootprint
open Go.RowKit Go.Proofs.YtaddjeoncbmohaaW.PrintWords Go.Proofs.YtaddjeoncbmohaaW.PrintLast Go.Proofs.YtaddjeoncbmohaaW.PrintMore
attribute [local go_sem] max2_int min2_int max_two min_two max_three min_three max_four min_four   -- for this text's walks alone
set_option linter.unusedVariables false
set_option linter.unusedSimpArgs false

/-! ### laws_markYard: function 21 -/
def laws_markYard.f (k : Nat) (a0_0 : Int) (a0_1 : Int) (a0_2 : ByteArray) (a0_3 : Int) (a0_4 : Int) (a0_5 : Int) (a0_6 : Int) (l0_7 : List S36) (a0_8 : Int) (a0_9 : Int) (l0_10 : List Int) (a0_11 : Int) (a0_12 : Bool) (a0_13 : Int) (a0_14 : Int) (l0_15 : List S95) (l0_16 : List S93) (l0_17 : List Int) (a1 : Int) : Option Int :=
  (laws_markRobotS.f k l0_7 a1).bind fun r1 => (laws_markWindow.f k a0_8 a0_9 l0_10 r1.1).bind fun r2 => (laws_markPlan.f k a0_13 a0_14 l0_15 r2.1).bind fun r3 => (laws_markJobS.f k l0_16 r3).bind fun r4 => (laws_markIntS.f k l0_17 r4.1).bind fun r5 => some r5.1
theorem laws_markYard.mono : ∀ a0 a1 a2 a3 a4 a5 a6 a7 a8 a9 a10 a11 a12 a13 a14 a15 a16 a17 a18 k, LeO (laws_markYard.f k a0 a1 a2 a3 a4 a5 a6 a7 a8 a9 a10 a11 a12 a13 a14 a15 a16 a17 a18) (laws_markYard.f (k + 1) a0 a1 a2 a3 a4 a5 a6 a7 a8 a9 a10 a11 a12 a13 a14 a15 a16 a17 a18) := by
  intros
  exact LeO.bind (laws_markRobotS.mono _ _ _) (fun _ => LeO.bind (laws_markWindow.mono _ _ _ _ _) (fun _ => LeO.bind (laws_markPlan.mono _ _ _ _ _) (fun _ => LeO.bind (laws_markJobS.mono _ _ _) (fun _ => LeO.bind (laws_markIntS.mono _ _ _) (fun _ => LeO.refl _)))))
open Go.Proofs.Ytaddjeoncbmohaa.MyMark in
set_option maxHeartbeats 4000000 in
set_option maxRecDepth 100000 in
theorem laws_markYard.core (k : Nat) (a0_0 : Int) (a0_1 : Int) (a0_2 : ByteArray) (a0_3 : Int) (a0_4 : Int) (a0_5 : Int) (a0_6 : Int) (Q7 : Nat → Prop) (u7 : Value) (l0_7 : List S36) (a0_8 : Int) (a0_9 : Int) (Q10 : Nat → Prop) (u10 : Value) (l0_10 : List Int) (a0_11 : Int) (a0_12 : Bool) (a0_13 : Int) (a0_14 : Int) (Q15 : Nat → Prop) (u15 : Value) (l0_15 : List S95) (Q16 : Nat → Prop) (u16 : Value) (l0_16 : List S93) (Q17 : Nat → Prop) (u17 : Value) (l0_17 : List Int) (a1 : Int) (r : Int) (w0 w : World) (hB : Below w0.heap.size w0 w)
    (hlt : ∀ k_, Q7 k_ ∨ Q10 k_ ∨ Q15 k_ ∨ Q16 k_ ∨ Q17 k_ → k_ < w.heap.size)
    (d7 : ∀ k_, Q7 k_ → ¬ (Q10 k_ ∨ Q15 k_ ∨ Q16 k_ ∨ Q17 k_)) (d10 : ∀ k_, Q10 k_ → ¬ (Q15 k_ ∨ Q16 k_ ∨ Q17 k_)) (d15 : ∀ k_, Q15 k_ → ¬ (Q16 k_ ∨ Q17 k_)) (d16 : ∀ k_, Q16 k_ → ¬ Q17 k_)
    (ho7 : Kd.R k36 36 w w0.heap.size Q7 u7 l0_7) (ho10 : Kd.R (Kd.int .i64) 3 w w0.heap.size Q10 u10 l0_10) (ho15 : Kd.S k95 95 w w0.heap.size Q15 u15 l0_15) (ho16 : Kd.R k93 93 w w0.heap.size Q16 u16 l0_16) (ho17 : Kd.R (Kd.int .i64) 3 w w0.heap.size Q17 u17 l0_17)
    (h : laws_markYard.f k a0_0 a0_1 a0_2 a0_3 a0_4 a0_5 a0_6 l0_7 a0_8 a0_9 l0_10 a0_11 a0_12 a0_13 a0_14 l0_15 l0_16 l0_17 a1 = some r) :
    Calls Try.prog 21 #[.agg #[.int .i64 a0_0, .int .i64 a0_1, .string a0_2, .int .i64 a0_3, .int .i64 a0_4, .int .i64 a0_5, .int .i64 a0_6, u7, .int .i64 a0_8, .int .i64 a0_9, u10, .int .i64 a0_11, .bool a0_12, .int .i64 a0_13, .int .i64 a0_14, u15, u16, u17], .int .i64 a1] w fun e w' => e = .returned (.int .i64 r) ∧ Below w0.heap.size w0 w' ∧ Kept w w' (fun k_ => (Q7 k_ ∨ Q10 k_ ∨ Q15 k_ ∨ Q16 k_ ∨ Q17 k_)) := by
  obtain ⟨r1, h1, h⟩ := Option.bind_eq_some_iff.1 h
  obtain ⟨r2, h2, h⟩ := Option.bind_eq_some_iff.1 h
  obtain ⟨r3, h3, h⟩ := Option.bind_eq_some_iff.1 h
  obtain ⟨r4, h4, h⟩ := Option.bind_eq_some_iff.1 h
  obtain ⟨r5, h5, h⟩ := Option.bind_eq_some_iff.1 h
  obtain rfl := Option.some.inj h
  clear h
  have hu := Try.underlying58
  obtain ⟨A7, c7, rfl⟩ := Kd.R_slice ho7
  obtain ⟨A10, c10, rfl⟩ := Kd.R_slice ho10
  obtain ⟨A15, c15, rfl⟩ := Kd.R_slice (Kd.S_R ho15)
  obtain ⟨A16, c16, rfl⟩ := Kd.R_slice ho16
  obtain ⟨A17, c17, rfl⟩ := Kd.R_slice ho17
  have N1 : Aside0 (∀ w1, Below w.heap.size w w1 → Calls Try.prog 71 #[.slice A7 l0_7.length c7, .int .i64 a1] w1 fun e w2 => e = .returned (.int .i64 r1.1) ∧ Below w0.heap.size w0 w2 ∧ Kept w1 w2 Q7) := ⟨fun w1 hb =>
    (laws_markRobotS.calls k Q7 _ l0_7 a1 r1.1 r1.2 w0 w1 (below_then hB hB.size hb) (Kd.R_below ho7 hb) h1).mono fun e w2 ⟨e1, _, b, kp⟩ => ⟨e1, b, kp⟩⟩
  have N2 : Aside0 (∀ w1 w2, Below w.heap.size w w1 → Below w0.heap.size w0 w2 → Kept w1 w2 Q7 → Calls Try.prog 72 #[.agg #[.int .i64 a0_8, .int .i64 a0_9, .slice A10 l0_10.length c10], .int .i64 r1.1] w2 fun e w3 => e = .returned (.int .i64 r2.1) ∧ Below w0.heap.size w0 w3 ∧ Kept w1 w3 (fun k_ => Q7 k_ ∨ Q10 k_)) := ⟨fun w1 w2 hw hb hk =>
    (laws_markWindow.calls k a0_8 a0_9 Q10 _ l0_10 r1.1 r2.1 r2.2 w0 w2 hb (R_kept_apart (Kd.R_below ho10 hw) hk (fun k_ h10 h7 => d7 k_ h7 (.inl h10))) h2).mono fun e w3 ⟨e1, _, b, kp⟩ => ⟨e1, b, Kept.then_ (Kept.mono hk (fun _ h => .inl h)) kp (fun _ h => .inl (.inr h))⟩⟩
  have N3 : Aside0 (∀ w1 w3, Below w.heap.size w w1 → Below w0.heap.size w0 w3 → Kept w1 w3 (fun k_ => Q7 k_ ∨ Q10 k_) → Calls Try.prog 73 #[.agg #[.int .i64 a0_13, .int .i64 a0_14, .slice A15 l0_15.length c15], .int .i64 r2.1] w3 fun e w4 => e = .returned (.int .i64 r3) ∧ Below w0.heap.size w0 w4 ∧ Kept w1 w4 (fun k_ => Q7 k_ ∨ Q10 k_ ∨ Q15 k_)) := ⟨fun w1 w3 hw hb hk =>
    (laws_markPlan.calls k a0_13 a0_14 Q15 _ l0_15 r2.1 r3 w0 w3 hb (S_kept_apart (Kd.S_below ho15 hw) hk (fun k_ h15 hs => hs.elim (fun h7 => d7 k_ h7 (.inr (.inl h15))) (fun h10 => d10 k_ h10 (.inl h15)))) h3).mono fun e w4 ⟨e1, b, kp⟩ => ⟨e1, b, Kept.then_ (Kept.mono hk (fun _ h => h.elim .inl (fun h => .inr (.inl h)))) kp (fun _ h => .inl (.inr (.inr h)))⟩⟩
  have N4 : Aside0 (∀ w1 w4, Below w.heap.size w w1 → Below w0.heap.size w0 w4 → Kept w1 w4 (fun k_ => Q7 k_ ∨ Q10 k_ ∨ Q15 k_) → Calls Try.prog 74 #[.slice A16 l0_16.length c16, .int .i64 r3] w4 fun e w5 => e = .returned (.int .i64 r4.1) ∧ Below w0.heap.size w0 w5 ∧ Kept w1 w5 (fun k_ => Q7 k_ ∨ Q10 k_ ∨ Q15 k_ ∨ Q16 k_)) := ⟨fun w1 w4 hw hb hk =>
    (laws_markJobS.calls k Q16 _ l0_16 r3 r4.1 r4.2 w0 w4 hb (R_kept_apart (Kd.R_below ho16 hw) hk (fun k_ h16 hs => by
      rcases hs with h7 | h10 | h15
      · exact d7 k_ h7 (.inr (.inr (.inl h16)))
      · exact d10 k_ h10 (.inr (.inl h16))
      · exact d15 k_ h15 (.inl h16))) h4).mono fun e w5 ⟨e1, _, b, kp⟩ => ⟨e1, b, Kept.then_ (Kept.mono hk (fun _ h => by
      rcases h with h | h | h
      · exact .inl h
      · exact .inr (.inl h)
      · exact .inr (.inr (.inl h)))) kp (fun _ h => .inl (.inr (.inr (.inr h))))⟩⟩
  have N5 : Aside0 (∀ w1 w5, Below w.heap.size w w1 → Below w0.heap.size w0 w5 → Kept w1 w5 (fun k_ => Q7 k_ ∨ Q10 k_ ∨ Q15 k_ ∨ Q16 k_) → Calls Try.prog 26 #[.slice A17 l0_17.length c17, .int .i64 r4.1] w5 fun e w6 => e = .returned (.int .i64 r5.1) ∧ Below w0.heap.size w0 w6 ∧ Kept w1 w6 (fun k_ => Q7 k_ ∨ Q10 k_ ∨ Q15 k_ ∨ Q16 k_ ∨ Q17 k_)) := ⟨fun w1 w5 hw hb hk =>
    (laws_markIntS.calls k Q17 _ l0_17 r4.1 r5.1 r5.2 w0 w5 hb (R_kept_apart (Kd.R_below ho17 hw) hk (fun k_ h17 hs => by
      rcases hs with h7 | h10 | h15 | h16
      · exact d7 k_ h7 (.inr (.inr (.inr h17)))
      · exact d10 k_ h10 (.inr (.inr h17))
      · exact d15 k_ h15 (.inr h17)
      · exact d16 k_ h16 h17)) h5).mono fun e w6 ⟨e1, _, b, kp⟩ => ⟨e1, b, Kept.then_ (Kept.mono hk (fun _ h => by
      rcases h with h | h | h | h
      · exact .inl h
      · exact .inr (.inl h)
      · exact .inr (.inr (.inl h))
      · exact .inr (.inr (.inr (.inl h))))) kp (fun _ h => .inl (.inr (.inr (.inr (.inr h)))))⟩⟩
  have HLT := Aside0.mk hlt
  clear hlt d7 d10 d15 d16 ho7 ho10 ho15 ho16 ho17 h1 h2 h3 h4 h5 hB
  generalize l0_7.length = n7 at *
  generalize l0_10.length = n10 at *
  generalize l0_15.length = n15 at *
  generalize l0_16.length = n16 at *
  generalize l0_17.length = n17 at *
  generalize r1.1 = x1 at *
  generalize r2.1 = x2 at *
  generalize r4.1 = x4 at *
  generalize r5.1 = x5 at *
  go_enter Try.func21, Try.ntmps21
  go_wp2_with (first
    | ((with_reducible refine gate_dst (N := 2) rfl ?_); refine box_event ?hg (N := 2) ?hd (cs := #[.int .i64 a0_0, .int .i64 a0_1, .string a0_2, .int .i64 a0_3, .int .i64 a0_4, .int .i64 a0_5, .int .i64 a0_6, .slice A7 n7 c7, .int .i64 a0_8, .int .i64 a0_9, .slice A10 n10 c10, .int .i64 a0_11, .bool a0_12, .int .i64 a0_13, .int .i64 a0_14, .slice A15 n15 c15, .slice A16 n16 c16, .slice A17 n17 c17]) (t := 58) ?hr ?_; (case hd => rfl); (case hg => rfl); (case hr => first | (go_simp; done) | (go_simp; rfl)); intro g hg w1 hbox hb1; have HB1 := Aside0.mk hb1; have BK1 := Aside0.mk hbox; have GE : Aside0 (w.heap.size ≤ g) := ⟨Nat.le_of_eq hg.symm⟩; clear hb1 hbox hg; have hz7 : w1.cell? ⟨g, 7, none⟩ = some (.slice A7 n7 c7) := (blk_cell BK1.out 7).trans rfl)
    | (go_at_call 71; refine (N1.out _ HB1.out).mono ?_; rintro e w2 ⟨rfl, hb2, hk2⟩; have HB2 := Aside0.mk hb2; have HK2 := Aside0.mk hk2; have BK2 := Aside0.mk (blk_kept_lt BK1.out hk2 (fun k_ h => HLT.out k_ (.inl h)) GE.out); clear hb2 hk2 hz7; have hy8 : w2.cell? ⟨g, 8, none⟩ = some (.int .i64 a0_8) := (blk_cell BK2.out 8).trans rfl; have hy9 : w2.cell? ⟨g, 9, none⟩ = some (.int .i64 a0_9) := (blk_cell BK2.out 9).trans rfl; have hy10 : w2.cell? ⟨g, 10, none⟩ = some (.slice A10 n10 c10) := (blk_cell BK2.out 10).trans rfl)
    | (go_at_call 72; refine (N2.out _ _ HB1.out HB2.out HK2.out).mono ?_; rintro e w3 ⟨rfl, hb3, hk3⟩; have HB3 := Aside0.mk hb3; have HK3 := Aside0.mk hk3; have BK3 := Aside0.mk (blk_kept_lt BK1.out hk3 (fun k_ h => HLT.out k_ (h.elim .inl (fun h => .inr (.inl h)))) GE.out); clear hb3 hk3 hy8 hy9 hy10; have hx13 : w3.cell? ⟨g, 13, none⟩ = some (.int .i64 a0_13) := (blk_cell BK3.out 13).trans rfl; have hx14 : w3.cell? ⟨g, 14, none⟩ = some (.int .i64 a0_14) := (blk_cell BK3.out 14).trans rfl; have hx15 : w3.cell? ⟨g, 15, none⟩ = some (.slice A15 n15 c15) := (blk_cell BK3.out 15).trans rfl)
    | (go_at_call 73; refine (N3.out _ _ HB1.out HB3.out HK3.out).mono ?_; rintro e w4 ⟨rfl, hb4, hk4⟩; have HB4 := Aside0.mk hb4; have HK4 := Aside0.mk hk4; have BK4 := Aside0.mk (blk_kept_lt BK1.out hk4 (fun k_ h => HLT.out k_ (h.elim .inl (fun h => h.elim (fun h => .inr (.inl h)) (fun h => .inr (.inr (.inl h)))))) GE.out); clear hb4 hk4 hx13 hx14 hx15; have hz16 : w4.cell? ⟨g, 16, none⟩ = some (.slice A16 n16 c16) := (blk_cell BK4.out 16).trans rfl)
    | (go_at_call 74; refine (N4.out _ _ HB1.out HB4.out HK4.out).mono ?_; rintro e w5 ⟨rfl, hb5, hk5⟩; have HB5 := Aside0.mk hb5; have HK5 := Aside0.mk hk5; have BK5 := Aside0.mk (blk_kept_lt BK1.out hk5 (fun k_ h => HLT.out k_ (h.elim .inl (fun h => h.elim (fun h => .inr (.inl h)) (fun h => h.elim (fun h => .inr (.inr (.inl h))) (fun h => .inr (.inr (.inr (.inl h)))))))) GE.out); clear hb5 hk5 hz16; have hz17 : w5.cell? ⟨g, 17, none⟩ = some (.slice A17 n17 c17) := (blk_cell BK5.out 17).trans rfl)
    | (go_at_call 26; refine (N5.out _ _ HB1.out HB5.out HK5.out).mono ?_; rintro e w6 ⟨rfl, hb6, hk6⟩; have HB6 := Aside0.mk hb6; have HK6 := Aside0.mk hk6; clear hb6 hk6 hz17))
  go_ret
  exact ⟨rfl, HB6.out, Kept.then_ (Kept.of_below HB1.out _) HK6.out (fun _ h => .inl h)⟩
open Go.Proofs.Ytaddjeoncbmohaa.MyMark in
set_option maxHeartbeats 4000000 in
set_option maxRecDepth 100000 in
theorem laws_markYard.calls (k : Nat) (a0_0 : Int) (a0_1 : Int) (a0_2 : ByteArray) (a0_3 : Int) (a0_4 : Int) (a0_5 : Int) (a0_6 : Int) (P7 : Nat → Prop) (u7 : Value) (l0_7 : List S36) (a0_8 : Int) (a0_9 : Int) (P10 : Nat → Prop) (u10 : Value) (l0_10 : List Int) (a0_11 : Int) (a0_12 : Bool) (a0_13 : Int) (a0_14 : Int) (P15 : Nat → Prop) (u15 : Value) (l0_15 : List S95) (P16 : Nat → Prop) (u16 : Value) (l0_16 : List S93) (P17 : Nat → Prop) (u17 : Value) (l0_17 : List Int) (a1 : Int) (r : Int) (w0 w : World) (hB : Below w0.heap.size w0 w)
    (ho7 : Kd.R k36 36 w w0.heap.size P7 u7 l0_7)
    (ho10 : Kd.R (Kd.int .i64) 3 w w0.heap.size P10 u10 l0_10) (hp10_15 : ∀ k_, P10 k_ → ¬ P15 k_) (hp10_17 : ∀ k_, P10 k_ → ¬ P17 k_)
    (ho15 : Kd.S k95 95 w w0.heap.size P15 u15 l0_15) (hp15_10 : ∀ k_, P15 k_ → ¬ P10 k_) (hp15_17 : ∀ k_, P15 k_ → ¬ P17 k_)
    (ho16 : Kd.R k93 93 w w0.heap.size P16 u16 l0_16)
    (ho17 : Kd.R (Kd.int .i64) 3 w w0.heap.size P17 u17 l0_17) (hp17_10 : ∀ k_, P17 k_ → ¬ P10 k_) (hp17_15 : ∀ k_, P17 k_ → ¬ P15 k_)
    (h : laws_markYard.f k a0_0 a0_1 a0_2 a0_3 a0_4 a0_5 a0_6 l0_7 a0_8 a0_9 l0_10 a0_11 a0_12 a0_13 a0_14 l0_15 l0_16 l0_17 a1 = some r) :
    Calls Try.prog 21 #[.agg #[.int .i64 a0_0, .int .i64 a0_1, .string a0_2, .int .i64 a0_3, .int .i64 a0_4, .int .i64 a0_5, .int .i64 a0_6, u7, .int .i64 a0_8, .int .i64 a0_9, u10, .int .i64 a0_11, .bool a0_12, .int .i64 a0_13, .int .i64 a0_14, u15, u16, u17], .int .i64 a1] w fun e w' => e = .returned (.int .i64 r) ∧ Below w0.heap.size w0 w' ∧ Kept w w' (fun k_ => (P7 k_ ∨ P10 k_ ∨ P15 k_ ∨ P16 k_ ∨ P17 k_)) := by
  have b7 := Kd.R_bound ho7
  have b10 := Kd.R_bound ho10
  have b15 := Kd.S_bound ho15
  have b16 := Kd.R_bound ho16
  have b17 := Kd.R_bound ho17
  refine (laws_markYard.core k a0_0 a0_1 a0_2 a0_3 a0_4 a0_5 a0_6 _ u7 l0_7 a0_8 a0_9 _ u10 l0_10 a0_11 a0_12 a0_13 a0_14 _ u15 l0_15 _ u16 l0_16 _ u17 l0_17 a1 r w0 w hB ?_ ?_ ?_ ?_ ?_ b7 b10 b15 b16 b17 h).mono ?_
  · rintro k_ (h | h | h | h | h) <;> exact h.2.2.1
  · rintro k_ h7 (h | h | h | h)
    · exact typ_apart h7.2.2.2 h.2.2.2 (by decide)
    · exact typ_apart h7.2.2.2 h.2.2.2 (by decide)
    · exact typ_apart h7.2.2.2 h.2.2.2 (by decide)
    · exact typ_apart h7.2.2.2 h.2.2.2 (by decide)
  · rintro k_ h7 (h | h | h)
    · exact hp10_15 k_ h7.1 h.1
    · exact typ_apart h7.2.2.2 h.2.2.2 (by decide)
    · exact hp10_17 k_ h7.1 h.1
  · rintro k_ h7 (h | h)
    · exact typ_apart h7.2.2.2 h.2.2.2 (by decide)
    · exact hp15_17 k_ h7.1 h.1
  · exact fun k_ h7 h => typ_apart h7.2.2.2 h.2.2.2 (by decide)
  · rintro e w' ⟨e1, hb, hk⟩
    refine ⟨e1, hb, Kept.mono hk ?_⟩
    rintro k_ (h | h | h | h | h)
    · exact .inl h.1
    · exact .inr (.inl h.1)
    · exact .inr (.inr (.inl h.1))
    · exact .inr (.inr (.inr (.inl h.1)))
    · exact .inr (.inr (.inr (.inr h.1)))


end Go.Proofs.Ytaddjeoncbmohaa.MFnExactFootprint
