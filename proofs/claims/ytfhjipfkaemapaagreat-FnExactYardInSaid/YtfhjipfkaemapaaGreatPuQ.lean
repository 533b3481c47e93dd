/- Plain laws about reading a yard from numbers: the loops. -/
import Derived.Test.YtfhjipfkaemapaaGreatPuP
namespace Go.Proofs.YtfhjipfkaemapaaGreat.Pu
open Go Go.Av Go.Proofs Go.Proofs.YtfhjipfkaemapaaGreat.V
set_option linter.unusedVariables false
set_option linter.unusedSimpArgs false
def InL (l : List Int) (p : Int) : Prop := 0 ≤ p ∧ p ≤ (l.length : Int)
theorem sNext_in {l : List Int} {p : Int} (h : InL l p) (b : Bool) : InL l (sNext l p b).2.1 := by
 obtain ⟨h0, h1⟩ := h
 unfold sNext
 split
 ·exact ⟨h0, h1⟩
 ·exact ⟨by show 0 ≤ p + 1; omega, by show p + 1 ≤ _; omega⟩
theorem sCount_in {l : List Int} {p : Int} (h : InL l p) (m : Int) (b : Bool) : InL l (sCount l m p b).2.1 := by
 unfold sCount
 split <;> exact sNext_in h b
theorem loopG {X α ρ : Type} (f : X → Bool → α × X × Bool) (I : X → Prop) (L : Nat → X → Bool → List α → Int → Option ρ) (F : X → Bool → List α → Option ρ) (ix : Nat → Int) (n C sz M : Nat) (hsz : sz ≤ 64) (hM : M ≤ 1000000) (hI : ∀ p b, I p → I (f p b).2.1)
  (h1 : ∀ kq p b out i, i < n → C ≤ kq → I p → L (kq + 1) p b out (ix i) = if (out.length + 1) * sz ≤ 140737488355328 then L kq (f p b).2.1 (f p b).2.2 (out ++ [(f p b).1]) (ix (i + 1)) else none)
  (h2 : ∀ kq p b out, C ≤ kq → I p → out.length ≤ M → L (kq + 1) p b out (ix n) = F p b out) :
  ∀ (d i k : Nat) (p : X) (b : Bool) (out : List α), i + d = n → C + d < k → I p → out.length + d ≤ M → L k p b out (ix i) = F (iter f d p b).2.1 (iter f d p b).2.2 (out ++ (iter f d p b).1) := by
 intro d
 induction d with
 | zero =>
   intro i k p b out hi hk hp ho
   obtain ⟨k, rfl⟩ := ks hk
   obtain rfl : i = n := by omega
   rw [h2 k p b out (by omega) hp (by omega)]
   simp [iter]
 | succ d ih =>
   intro i k p b out hi hk hp ho
   obtain ⟨k, rfl⟩ := ks hk
   have hc : (out.length + 1) * sz ≤ 140737488355328 := Nat.le_trans (Nat.mul_le_mul_left _ hsz) (by omega)
   rw [h1 k p b out i (by omega) (by omega) hp, if_pos hc, ih (i + 1) k _ _ _ (by omega) (by omega) (hI p b hp) (by simp; omega)]
   simp [iter]
theorem loopE {X α ρ : Type} (f : X → Bool → α × X × Bool) (L : Nat → X → Bool → List α → Int → Option ρ) (F : X → Bool → List α → Option ρ) (ix : Nat → Int) (n C sz M : Nat) (hsz : sz ≤ 64) (hM : M ≤ 1000000)
  (h0 : ∀ kq p out i, i < n → C ≤ kq → L (kq + 1) p true out (ix i) = F p true out)
  (h1 : ∀ kq p b out i, b = false → i < n → C ≤ kq → L (kq + 1) p b out (ix i) = if (out.length + 1) * sz ≤ 140737488355328 then L kq (f p b).2.1 (f p b).2.2 (out ++ [(f p b).1]) (ix (i + 1)) else none)
  (h2 : ∀ kq p b out, C ≤ kq → L (kq + 1) p b out (ix n) = F p b out) :
  ∀ (d i k : Nat) (p : X) (b : Bool) (out : List α), i + d = n → C + d < k → out.length + d ≤ M → L k p b out (ix i) = F (iterE f d p b).2.1 (iterE f d p b).2.2 (out ++ (iterE f d p b).1) := by
 intro d
 induction d with
 | zero =>
   intro i k p b out hi hk ho
   obtain ⟨k, rfl⟩ := ks hk
   obtain rfl : i = n := by omega
   rw [h2 k p b out (by omega)]
   simp [iterE]
 | succ d ih =>
   intro i k p b out hi hk ho
   obtain ⟨k, rfl⟩ := ks hk
   have hc : (out.length + 1) * sz ≤ 140737488355328 := Nat.le_trans (Nat.mul_le_mul_left _ hsz) (by omega)
   cases b with
   | true => rw [h0 k p out i (by omega) (by omega)]; simp [iterE]
   | false =>
     rw [h1 k p false out i rfl (by omega) (by omega), if_pos hc, ih (i + 1) k _ _ _ (by omega) (by omega) (by simp; omega)]
     simp [iterE]
theorem wrap8 {v : Int} (h : 0 ≤ v ∧ v ≤ 255) : IntKind.u8.wrap v = v := by
 unfold IntKind.wrap
 simp [IntKind.signed, IntKind.bits]
 omega
theorem mulY {a b : Int} (ha : 0 ≤ a ∧ a ≤ 8) (hb : 0 ≤ b ∧ b ≤ 8) : 0 ≤ a * b ∧ a * b ≤ 64 :=
 ⟨Int.mul_nonneg ha.1 hb.1, Int.le_trans (Int.mul_le_mul ha.2 hb.2 hb.1 (by omega)) (by omega)⟩
theorem spec0 (l : List Int) (hl : l.length ≤ 1048576) (T1 T2 : Int × Int × Bool) (h1 : 0 ≤ T1.1 ∧ T1.1 ≤ 8) (h2 : 0 ≤ T2.1 ∧ T2.1 ≤ 8) (p : Int) (b : Bool) (hp : InL l p) (k : Nat) (hk : 1000 ≤ k) :
  spec_YardIn.l0 k T1 T2 l p b [] 0 = some ((iter (sCount l 255) (T1.1 * T2.1).toNat p b).2.1, (iter (sCount l 255) (T1.1 * T2.1).toNat p b).2.2, (iter (sCount l 255) (T1.1 * T2.1).toNat p b).1) := by
 have hm := mulY h1 h2
 have h := loopG (sCount l 255) (InL l) (fun k p b out i => spec_YardIn.l0 k T1 T2 l p b out i) (fun p b out => some (p, b, out)) (fun i => (i : Int)) (T1.1 * T2.1).toNat 0 1 1000 (by omega) (by omega) (fun p b hp => sCount_in hp 255 b)
  (fun kq p b out i hi _ hp => by
    show spec_YardIn.l0 (kq + 1) T1 T2 l p b out _ = _
    rw [spec_YardIn.l0, w64e (x := T1.1 * T2.1) (by omega) (by omega), if_pos (by omega), sCount_eq l hl 255 p (by omega) b hp.1 hp.2, Option.bind_some, wrap8 (count_rng l (m := 255) (by omega) p b), wn (i := i) (by omega)])
  (fun kq p b out _ _ _ => by show spec_YardIn.l0 (kq + 1) T1 T2 l p b out _ = _; rw [spec_YardIn.l0, w64e (x := T1.1 * T2.1) (by omega) (by omega), if_neg (by omega)]) (T1.1 * T2.1).toNat 0 k p b [] (by omega) (by omega) hp (by simp; omega)
 simpa using h
theorem impl0 (l : List Int) (T1 T2 : Int × Nat × Bool) (h1 : 0 ≤ T1.1 ∧ T1.1 ≤ 8) (h2 : 0 ≤ T2.1 ∧ T2.1 ≤ 8) (p : Nat) (b : Bool) (k : Nat) (hk : 1000 ≤ k) :
  impl_numbers_yardIn.l0 k T1 T2 l p b [] 0 = some ((iter (iNext l 255) (T1.1 * T2.1).toNat p b).2.1, (iter (iNext l 255) (T1.1 * T2.1).toNat p b).2.2, (iter (iNext l 255) (T1.1 * T2.1).toNat p b).1) := by
 have hm := mulY h1 h2
 have h := loopG (iNext l 255) (fun _ => True) (fun k p b out i => impl_numbers_yardIn.l0 k T1 T2 l p b out i) (fun p b out => some (p, b, out)) (fun i => (i : Int)) (T1.1 * T2.1).toNat 0 1 1000 (by omega) (by omega) (fun p b hp => trivial)
  (fun kq p b out i hi _ hp => by
    show impl_numbers_yardIn.l0 (kq + 1) T1 T2 l p b out _ = _
    rw [impl_numbers_yardIn.l0, w64e (x := T1.1 * T2.1) (by omega) (by omega), if_pos (by omega), iNext_eq l 255 p b, Option.bind_some, wrap8 (next_rng l (m := 255) (by omega) p b), wn (i := i) (by omega)])
  (fun kq p b out _ _ _ => by show impl_numbers_yardIn.l0 (kq + 1) T1 T2 l p b out _ = _; rw [impl_numbers_yardIn.l0, w64e (x := T1.1 * T2.1) (by omega) (by omega), if_neg (by omega)]) (T1.1 * T2.1).toNat 0 k p b [] (by omega) (by omega) trivial (by simp; omega)
 simpa using h
def sRobot (l : List Int) : Int → Bool → S51 × Int × Bool := andThen (sNext l) (andThen (sNext l) (andThen (sNext l) (sFlag l) Prod.mk) Prod.mk) fun a x => ⟨a, x.1, x.2.1, x.2.2⟩
def iRobot (l : List Int) : Nat → Bool → S51 × Nat × Bool := andThen (iAny l) (andThen (iAny l) (andThen (iAny l) (iFlag l) Prod.mk) Prod.mk) fun a x => ⟨a, x.1, x.2.1, x.2.2⟩
def serRobot (x : S51) : List Int := [x.f0, x.f1, x.f2, flagI x.f3]
theorem pair_robot (l : List Int) : Pair l (sRobot l) (iRobot l) serRobot :=
 pair_then (pair_any l) (pair_then (s := fun x => [x.1, x.2.1, flagI x.2.2]) (pair_any l) (pair_then (s := fun x => [x.1, flagI x.2]) (pair_any l) (pair_flag l) fun _ _ => rfl) fun _ _ => rfl) fun _ _ => rfl
theorem sRobot_in {l : List Int} {p : Int} (h : InL l p) (b : Bool) : InL l (sRobot l p b).2.1 := sCount_in (sNext_in (sNext_in (sNext_in h _) _) _) 1 _
theorem spec1 (l : List Int) (hl : l.length ≤ 1048576) (T : Int × Int × Bool) (h1 : 0 ≤ T.1 ∧ T.1 ≤ 10) (p : Int) (b : Bool) (hp : InL l p) (k : Nat) (hk : 1000 ≤ k) :
  spec_YardIn.l1 k T l p b [] 0 = some ((iter (sRobot l) T.1.toNat p b).2.1, (iter (sRobot l) T.1.toNat p b).2.2, (iter (sRobot l) T.1.toNat p b).1) := by
 have h := loopG (sRobot l) (InL l) (fun k p b out i => spec_YardIn.l1 k T l p b out i) (fun p b out => some (p, b, out)) (fun i => (i : Int)) T.1.toNat 0 32 1000 (by omega) (by omega) (fun p b hp => sRobot_in hp b)
  (fun kq p b out i hi _ hp => by
    show spec_YardIn.l1 (kq + 1) T l p b out _ = _
    have q1 := sNext_in hp b
    have q2 := sNext_in q1 (sNext l p b).2.2
    have q3 := sNext_in q2 (sNext l (sNext l p b).2.1 (sNext l p b).2.2).2.2
    rw [spec_YardIn.l1, if_pos (by omega), sNext_eq l hl _ _ hp.1 hp.2, Option.bind_some, sNext_eq l hl _ _ q1.1 q1.2, Option.bind_some, sNext_eq l hl _ _ q2.1 q2.2, Option.bind_some, sCount_eq l hl 1 _ (by omega) _ q3.1 q3.2, Option.bind_some, wn (i := i) (by omega)]
    rfl)
  (fun kq p b out _ _ _ => by show spec_YardIn.l1 (kq + 1) T l p b out _ = _; rw [spec_YardIn.l1, if_neg (by omega)]) T.1.toNat 0 k p b [] (by omega) (by omega) hp (by simp; omega)
 simpa using h
theorem downY {a : Int} (ha : 0 ≤ a ∧ a ≤ 1000) (i : Nat) (hi : i < a.toNat) : w64 (a - (i : Int) - 1) = a - ((i + 1 : Nat) : Int) := by
 rw [w64e (by omega) (by omega)]; omega
theorem impl1 (l : List Int) (v : Int) (h1 : 0 ≤ v ∧ v ≤ 10) (p : Nat) (b : Bool) (k : Nat) (hk : 1000 ≤ k) :
  impl_numbers_yardIn.l1 k l p b [] v = some ((iter (iRobot l) v.toNat p b).2.1, (iter (iRobot l) v.toNat p b).2.2, (iter (iRobot l) v.toNat p b).1) := by
 have h := loopG (iRobot l) (fun _ => True) (fun k p b out i => impl_numbers_yardIn.l1 k l p b out i) (fun p b out => some (p, b, out)) (fun i => v - (i : Int)) v.toNat 0 32 1000 (by omega) (by omega) (fun p b hp => trivial)
  (fun kq p b out i hi _ hp => by
    show impl_numbers_yardIn.l1 (kq + 1) l p b out _ = _
    rw [impl_numbers_yardIn.l1, if_pos (by omega), iAny_eq, Option.bind_some, iAny_eq, Option.bind_some, iAny_eq, Option.bind_some, iAny_eq, Option.bind_some, downY (a := v) (by omega) i hi]
    rfl)
  (fun kq p b out _ _ _ => by show impl_numbers_yardIn.l1 (kq + 1) l p b out _ = _; rw [impl_numbers_yardIn.l1, if_neg (by omega)]) v.toNat 0 k p b [] (by omega) (by omega) trivial (by simp; omega)
 simpa using h
theorem spec2 (l : List Int) (hl : l.length ≤ 1048576) (T : Int × Int × Bool) (h1 : 0 ≤ T.1 ∧ T.1 ≤ 8) (p : Int) (b : Bool) (hp : InL l p) (k : Nat) (hk : 1000 ≤ k) :
  spec_YardIn.l2 k T l p b [] 0 = some ((iter (sNext l) (T.1 * 6).toNat p b).2.1, (iter (sNext l) (T.1 * 6).toNat p b).2.2, (iter (sNext l) (T.1 * 6).toNat p b).1) := by
 have h := loopG (sNext l) (InL l) (fun k p b out i => spec_YardIn.l2 k T l p b out i) (fun p b out => some (p, b, out)) (fun i => (i : Int)) (T.1 * 6).toNat 0 8 1000 (by omega) (by omega) (fun p b hp => sNext_in hp b)
  (fun kq p b out i hi _ hp => by
    show spec_YardIn.l2 (kq + 1) T l p b out _ = _
    rw [spec_YardIn.l2, w64e (x := T.1 * 6) (by omega) (by omega), if_pos (by omega), sNext_eq l hl _ _ hp.1 hp.2, Option.bind_some, wn (i := i) (by omega)])
  (fun kq p b out _ _ _ => by show spec_YardIn.l2 (kq + 1) T l p b out _ = _; rw [spec_YardIn.l2, w64e (x := T.1 * 6) (by omega) (by omega), if_neg (by omega)]) (T.1 * 6).toNat 0 k p b [] (by omega) (by omega) hp (by simp; omega)
 simpa using h
theorem implSome (l : List Int) (v : Int) (h1 : 0 ≤ v ∧ v ≤ 64) (p : Nat) (b : Bool) (k : Nat) (hk : 1000 ≤ k) :
  impl_numbers_some.f k l p b v = some ((iterE (iAny l) v.toNat p b).1, (iterE (iAny l) v.toNat p b).2.1, (iterE (iAny l) v.toNat p b).2.2) := by
 have h := loopE (iAny l) (fun k p b out i => impl_numbers_some.l0 k l p b out i) (fun p b out => some (out, p, b)) (fun i => v - (i : Int)) v.toNat 0 8 1000 (by omega) (by omega)
  (fun kq p out i hi _ => by show impl_numbers_some.l0 (kq + 1) l p true out _ = _; rw [impl_numbers_some.l0, if_pos (by omega), if_pos rfl])
  (fun kq p b out i hb hi _ => by
    show impl_numbers_some.l0 (kq + 1) l p b out _ = _
    rw [impl_numbers_some.l0, if_pos (by omega), if_neg (by simp [hb]), iAny_eq, Option.bind_some, downY (a := v) (by omega) i hi])
  (fun kq p b out _ => by show impl_numbers_some.l0 (kq + 1) l p b out _ = _; rw [impl_numbers_some.l0, if_neg (by omega)]) v.toNat 0 k p b [] (by omega) (by omega) (by simp; omega)
 unfold impl_numbers_some.f
 simpa using h
def mapR {X α β : Type} (mk : α → β) (f : X → Bool → α × X × Bool) (p : X) (b : Bool) : β × X × Bool := (mk (f p b).1, (f p b).2)
theorem pair_map {l : List Int} {α β : Type} {f : Int → Bool → α × Int × Bool} {g : Nat → Bool → α × Nat × Bool} {s : α → List Int} {mk : α → β} {s' : β → List Int} (h : Pair l f g s) (hs : ∀ a, s' (mk a) = s a) : Pair l (mapR mk f) (mapR mk g) s' := by
 intro d p b j b' hJ
 obtain ⟨h1, h2⟩ := h d p b j b' hJ
 unfold mapR
 exact ⟨by rw [hs]; exact h1, fun hx => ⟨(h2 hx).1, by rw [(h2 hx).2]⟩⟩
def sWay (l : List Int) (m : Nat) : Int → Bool → S53 × Int × Bool := mapR (fun xs => (⟨xs⟩ : S53)) (iter (sNext l) m)
def iWay (l : List Int) (m : Nat) : Nat → Bool → S53 × Nat × Bool := mapR (fun xs => (⟨xs⟩ : S53)) (iterE (iAny l) m)
def serWay (x : S53) : List Int := x.f0.flatMap fun v => [v]
theorem pair_way (l : List Int) (m : Nat) : Pair l (sWay l m) (iWay l m) serWay := pair_map (pair_iterE (pair_any l) m) fun _ => rfl
theorem iter_in {α : Type} {l : List Int} {f : Int → Bool → α × Int × Bool} (hf : ∀ p b, InL l p → InL l (f p b).2.1) : ∀ n p b, InL l p → InL l (iter f n p b).2.1
 | 0, p, b, h => h
 | n + 1, p, b, h => iter_in hf n _ _ (hf p b h)
theorem spec4 (l : List Int) (hl : l.length ≤ 1048576) (T : Int × Int × Bool) (h1 : 0 ≤ T.1 ∧ T.1 ≤ 20) (p : Int) (b : Bool) (hp : InL l p) (k : Nat) (hk : 1000 ≤ k) :
  spec_YardIn.l4 k T l p b [] 0 = some ((iter (sNext l) (T.1 + 1).toNat p b).2.1, (iter (sNext l) (T.1 + 1).toNat p b).2.2, (iter (sNext l) (T.1 + 1).toNat p b).1) := by
 have h := loopG (sNext l) (InL l) (fun k p b out i => spec_YardIn.l4 k T l p b out i) (fun p b out => some (p, b, out)) (fun i => (i : Int)) (T.1 + 1).toNat 0 8 1000 (by omega) (by omega) (fun p b hp => sNext_in hp b)
  (fun kq p b out i hi _ hp => by
    show spec_YardIn.l4 (kq + 1) T l p b out _ = _
    rw [spec_YardIn.l4, if_pos (by omega), sNext_eq l hl _ _ hp.1 hp.2, Option.bind_some, wn (i := i) (by omega)])
  (fun kq p b out _ _ _ => by show spec_YardIn.l4 (kq + 1) T l p b out _ = _; rw [spec_YardIn.l4, if_neg (by omega)]) (T.1 + 1).toNat 0 k p b [] (by omega) (by omega) hp (by simp; omega)
 simpa using h
theorem spec3 (l : List Int) (hl : l.length ≤ 1048576) (T U : Int × Int × Bool) (h1 : 0 ≤ T.1 ∧ T.1 ≤ 10) (h2 : 0 ≤ U.1 ∧ U.1 ≤ 20) (p : Int) (b : Bool) (hp : InL l p) (k : Nat) (hk : 3000 ≤ k) :
  spec_YardIn.l3 k T U l p b [] 0 = some ((iter (sWay l (U.1 + 1).toNat) T.1.toNat p b).2.1, (iter (sWay l (U.1 + 1).toNat) T.1.toNat p b).2.2, (iter (sWay l (U.1 + 1).toNat) T.1.toNat p b).1) := by
 have h := loopG (sWay l (U.1 + 1).toNat) (InL l) (fun k p b out i => spec_YardIn.l3 k T U l p b out i) (fun p b out => some (p, b, out)) (fun i => (i : Int)) T.1.toNat 1000 24 1000 (by omega) (by omega) (fun p b hp => iter_in (fun p b hp => sNext_in hp b) _ p b hp)
  (fun kq p b out i hi hk hp => by
    show spec_YardIn.l3 (kq + 1) T U l p b out _ = _
    rw [spec_YardIn.l3, if_pos (by omega), spec4 l hl U h2 p b hp kq hk, Option.bind_some, wn (i := i) (by omega)]
    rfl)
  (fun kq p b out _ _ _ => by show spec_YardIn.l3 (kq + 1) T U l p b out _ = _; rw [spec_YardIn.l3, if_neg (by omega)]) T.1.toNat 0 k p b [] (by omega) (by omega) hp (by simp; omega)
 simpa using h
theorem impl2 (l : List Int) (U : Int × Nat × Bool) (v : Int) (h1 : 0 ≤ v ∧ v ≤ 10) (h2 : 0 ≤ U.1 ∧ U.1 ≤ 20) (p : Nat) (b : Bool) (k : Nat) (hk : 3000 ≤ k) :
  impl_numbers_yardIn.l2 k l U p b [] v = some ((iter (iWay l (U.1 + 1).toNat) v.toNat p b).2.1, (iter (iWay l (U.1 + 1).toNat) v.toNat p b).2.2, (iter (iWay l (U.1 + 1).toNat) v.toNat p b).1) := by
 have h := loopG (iWay l (U.1 + 1).toNat) (fun _ => True) (fun k p b out i => impl_numbers_yardIn.l2 k l U p b out i) (fun p b out => some (p, b, out)) (fun i => v - (i : Int)) v.toNat 1000 24 1000 (by omega) (by omega) (fun p b hp => trivial)
  (fun kq p b out i hi hk hp => by
    show impl_numbers_yardIn.l2 (kq + 1) l U p b out _ = _
    rw [impl_numbers_yardIn.l2, if_pos (by omega), w64e (x := U.1 + 1) (by omega) (by omega), implSome l (U.1 + 1) (by omega) p b kq hk, Option.bind_some, downY (a := v) (by omega) i hi]
    rfl)
  (fun kq p b out _ _ _ => by show impl_numbers_yardIn.l2 (kq + 1) l U p b out _ = _; rw [impl_numbers_yardIn.l2, if_neg (by omega)]) v.toNat 0 k p b [] (by omega) (by omega) trivial (by simp; omega)
 simpa using h
def sJob (l : List Int) : Int → Bool → S55 × Int × Bool := andThen (sNext l) (andThen (sNext l) (sFlag l) Prod.mk) fun a x => ⟨a, x.1, x.2⟩
def iJob (l : List Int) : Nat → Bool → S55 × Nat × Bool := andThen (iAny l) (andThen (iAny l) (iFlag l) Prod.mk) fun a x => ⟨a, x.1, x.2⟩
def serJob (x : S55) : List Int := [x.f0, x.f1, flagI x.f2]
theorem pair_job (l : List Int) : Pair l (sJob l) (iJob l) serJob :=
 pair_then (pair_any l) (pair_then (s := fun x => [x.1, flagI x.2]) (pair_any l) (pair_flag l) fun _ _ => rfl) fun _ _ => rfl
theorem sJob_in {l : List Int} {p : Int} (h : InL l p) (b : Bool) : InL l (sJob l p b).2.1 := sCount_in (sNext_in (sNext_in h _) _) 1 _
theorem spec5 (l : List Int) (hl : l.length ≤ 1048576) (T : Int × Int × Bool) (h1 : 0 ≤ T.1 ∧ T.1 ≤ 10) (p : Int) (b : Bool) (hp : InL l p) (k : Nat) (hk : 1000 ≤ k) :
  spec_YardIn.l5 k T l p b [] 0 = some ((iter (sJob l) T.1.toNat p b).2.1, (iter (sJob l) T.1.toNat p b).2.2, (iter (sJob l) T.1.toNat p b).1) := by
 have h := loopG (sJob l) (InL l) (fun k p b out i => spec_YardIn.l5 k T l p b out i) (fun p b out => some (p, b, out)) (fun i => (i : Int)) T.1.toNat 0 24 1000 (by omega) (by omega) (fun p b hp => sJob_in hp b)
  (fun kq p b out i hi _ hp => by
    show spec_YardIn.l5 (kq + 1) T l p b out _ = _
    have q1 := sNext_in hp b
    have q2 := sNext_in q1 (sNext l p b).2.2
    rw [spec_YardIn.l5, if_pos (by omega), sNext_eq l hl _ _ hp.1 hp.2, Option.bind_some, sNext_eq l hl _ _ q1.1 q1.2, Option.bind_some, sCount_eq l hl 1 _ (by omega) _ q2.1 q2.2, Option.bind_some, wn (i := i) (by omega)]
    rfl)
  (fun kq p b out _ _ _ => by show spec_YardIn.l5 (kq + 1) T l p b out _ = _; rw [spec_YardIn.l5, if_neg (by omega)]) T.1.toNat 0 k p b [] (by omega) (by omega) hp (by simp; omega)
 simpa using h
end Go.Proofs.YtfhjipfkaemapaaGreat.Pu