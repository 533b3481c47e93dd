/- Plain laws about reading a yard from numbers: both readers, side by side. -/
import Derived.Test.YtfhjipfkaemapaaGreatPuQ
namespace Go.Proofs.YtfhjipfkaemapaaGreat.Pu
open Go Go.Av Go.Proofs Go.Proofs.YtfhjipfkaemapaaGreat.V
set_option linter.unusedVariables false
set_option linter.unusedSimpArgs false
theorem flat_map {α : Type} (z : α) (xs : List α) (p : Nat → List Int) (h : α → List Int) (hp : ∀ i, p i = h (rdD z xs (i : Int))) : flatN p xs.length = xs.flatMap h := by
 unfold flatN
 have : (List.range' 0 xs.length).map p = xs.map h := by
  apply List.ext_getElem
  ·simp
  ·intro i h1 h2
   simp only [List.length_map, List.length_range'] at h1
   simp only [List.getElem_map, List.getElem_range', hp]
   rw [show 0 + 1 * i = i by omega, rdn z xs i h1]
 rw [this, List.flatMap_def]
theorem strOf_size (l : List Int) : (strOf l).size = l.length := by
 unfold strOf
 show (List.map _ l).toArray.size = _
 rw [List.size_toArray, List.length_map]
theorem bt_strOf (l : List Int) (hl : ∀ v ∈ l, 0 ≤ v ∧ v ≤ 255) (i : Nat) (h : i < l.length) : bt (strOf l) (i : Int) = l[i] := by
 unfold bt
 rw [dif_pos (by rw [strOf_size]; omega)]
 have := hl _ (List.getElem_mem h)
 simp only [strOf, Int.toNat_natCast]
 show ((ByteArray.get _ _ _).toNat : Int) = _
 simp [ByteArray.get]
 omega
theorem equalInts (a b : List Int) (ha : a.length ≤ 1048576) (k : Nat) (hk : 1100000 ≤ k) : slices_Equal_int_int.f k a b = some (decide (a = b)) := by
 unfold slices_Equal_int_int.f
 by_cases h : a.length = b.length
 ·rw [if_pos (by omega)]
  have h1 := all_gen a.length (by omega) (fun k v => slices_Equal_int_int.l0 k a b v) (fun i => decide (rdD 0 a (i : Int) = rdD 0 b (i : Int))) 0 true
   (fun kq i hi _ => by show slices_Equal_int_int.l0 (kq + 1) a b _ = _; rw [slices_Equal_int_int.l0, if_pos (by omega), if_pos (by omega), if_pos (by omega)]; simp only [decide_eq_true_eq])
   (fun kq _ => by show slices_Equal_int_int.l0 (kq + 1) a b _ = _; rw [slices_Equal_int_int.l0, if_neg (by omega)]) a.length 0 k (by omega) (by omega)
  refine h1.trans (congrArg some ?_)
  rw [Bool.and_true, Bool.eq_iff_iff, List.all_eq_true, decide_eq_true_eq]
  constructor
  ·intro hx
   apply List.ext_getElem h
   intro i h1 h2
   have := of_decide_eq_true (hx i (by simp [List.mem_range'_1]; omega))
   rwa [rdn 0 a i h1, rdn 0 b i h2] at this
  ·rintro rfl i _
   simp
 ·rw [if_neg (by omega)]
  have : a ≠ b := fun e => h (by rw [e])
  simp [this]
def zY : S35 := (⟨(⟨(⟨0, 0, (⟨#[]⟩ : ByteArray)⟩ : S24), 0, 0, 0, 0⟩ : S26), ([] : List S51), (⟨0, 0, ([] : List Int)⟩ : S29), 0, false, (⟨0, 0, ([] : List S53)⟩ : S32), ([] : List S55), ([] : List Int)⟩ : S35)
def mkY (w h : Int) (cells : List Int) (a b c d : Int) (robots : List S51) (counts : List Int) (tick : Int) (ad : Bool) (p q : Int) (ways : List S53) (jobs : List S55) (goals : List Int) : S35 :=
 ⟨⟨⟨w, h, strOf cells⟩, a, b, c, d⟩, robots, ⟨b, c, counts⟩, tick, ad, ⟨p, q, ways⟩, jobs, goals⟩
theorem zY_sized : Sized zY := ⟨by decide, by decide, by decide, by decide, fun w hw => by simp [zY] at hw, by decide, by decide⟩
theorem fm_id (xs : List Int) : (xs.flatMap fun v => [v]) = xs := by simp
theorem mkY_nums (w h : Int) (cells : List Int) (hc : ∀ v ∈ cells, 0 ≤ v ∧ v ≤ 255) (a b c d : Int) (robots : List S51) (counts : List Int) (tick : Int) (ad : Bool) (p q : Int) (ways : List S53) (jobs : List S55) (goals : List Int) :
  numsL (mkY w h cells a b c d robots counts tick ad p q ways jobs goals) = [w] ++ [h] ++ cells ++ [a] ++ [b] ++ [c] ++ [d] ++ [(robots.length : Int)] ++ robots.flatMap serRobot ++ counts ++ [tick] ++ [flagI ad] ++ [p] ++ [q] ++ [(ways.length : Int)] ++ ways.flatMap serWay ++ jobs.flatMap serJob ++ [(goals.length : Int)] ++ goals := by
 unfold numsL nums3 nums2 nums1
 have h1 : flatN (pCell (mkY w h cells a b c d robots counts tick ad p q ways jobs goals)) (strOf cells).size = cells := by
  unfold flatN
  rw [strOf_size]
  have : (List.range' 0 cells.length).map (pCell (mkY w h cells a b c d robots counts tick ad p q ways jobs goals)) = cells.map fun v => [v] := by
   apply List.ext_getElem
   ·simp
   ·intro i h1 h2
    simp only [List.length_map, List.length_range'] at h1
    simp only [List.getElem_map, List.getElem_range']
    rw [show 0 + 1 * i = i by omega]
    unfold pCell
    show [w64 (bt (strOf cells) (i : Int))] = _
    have := hc _ (List.getElem_mem h1)
    rw [bt_strOf cells hc i h1, w64e (by omega) (by omega)]
  rw [this, ← List.flatMap_def, fm_id]
 have h2 : flatN (pRobot (mkY w h cells a b c d robots counts tick ad p q ways jobs goals)) robots.length = robots.flatMap serRobot := flat_map z51 robots _ _ fun i => rfl
 have h3 : flatN (pWay (mkY w h cells a b c d robots counts tick ad p q ways jobs goals)) ways.length = ways.flatMap serWay := flat_map z53 ways _ _ fun i => by unfold pWay serWay; rw [fm_id]; rfl
 have h4 : flatN (pJob (mkY w h cells a b c d robots counts tick ad p q ways jobs goals)) jobs.length = jobs.flatMap serJob := flat_map z55 jobs _ _ fun i => rfl
 simp only [mkY] at h1 h2 h3 h4 ⊢
 rw [h1, h2, h3, h4]
 simp only [List.append_assoc, List.cons_append, List.nil_append]
def endS (l : List Int) (y : S35) (p : Int) (b : Bool) : S35 × Bool := if b = true then (zY, false) else if p = (l.length : Int) then (if yardB y = true then (y, true) else (zY, false)) else (zY, false)
theorem spec6 (l : List Int) (hl : l.length ≤ 1048576) (T t1 t2 : Int × Int × Bool) (y3 : Int × Bool × List Int) (t4 t5 t6 t7 : Int × Int × Bool) (y9 : Int × Bool × List S51) (y10 : Int × Bool × List Int) (t11 t12 t13 t14 : Int × Int × Bool) (y16 : Int × Bool × List S53) (y17 : Int × Bool × List S55)
  (h1 : 0 ≤ T.1 ∧ T.1 ≤ 64) (p : Int) (b : Bool) (hp : InL l p) (k : Nat) (hk : 3100000 ≤ k) (hS : ∀ out : List Int, out.length ≤ 1000 → Sized (mkY t1.1 t2.1 y3.2.2 t4.1 t5.1 t6.1 t7.1 y9.2.2 y10.2.2 t11.1 (decide (t12.1 = 1)) t13.1 t14.1 y16.2.2 y17.2.2 out)) :
  spec_YardIn.l6 k T l t1 t2 y3 t4 t5 t6 t7 y9 y10 t11 t12 t13 t14 y16 y17 p b [] 0 = some (endS l (mkY t1.1 t2.1 y3.2.2 t4.1 t5.1 t6.1 t7.1 y9.2.2 y10.2.2 t11.1 (decide (t12.1 = 1)) t13.1 t14.1 y16.2.2 y17.2.2 (iter (sNext l) T.1.toNat p b).1) (iter (sNext l) T.1.toNat p b).2.1 (iter (sNext l) T.1.toNat p b).2.2) := by
 have h := loopG (sNext l) (InL l) (fun k p b out i => spec_YardIn.l6 k T l t1 t2 y3 t4 t5 t6 t7 y9 y10 t11 t12 t13 t14 y16 y17 p b out i) (fun p b out => some (endS l (mkY t1.1 t2.1 y3.2.2 t4.1 t5.1 t6.1 t7.1 y9.2.2 y10.2.2 t11.1 (decide (t12.1 = 1)) t13.1 t14.1 y16.2.2 y17.2.2 out) p b)) (fun i => (i : Int)) T.1.toNat 3000000 8 1000 (by omega) (by omega) (fun p b hp => sNext_in hp b)
  (fun kq p b out i hi _ hp => by
    show spec_YardIn.l6 (kq + 1) T l t1 t2 y3 t4 t5 t6 t7 y9 y10 t11 t12 t13 t14 y16 y17 p b out _ = _
    rw [spec_YardIn.l6, if_pos (by omega), sNext_eq l hl _ _ hp.1 hp.2, Option.bind_some, wn (i := i) (by omega)])
  (fun kq p b out hkq _ ho => by
    show spec_YardIn.l6 (kq + 1) T l t1 t2 y3 t4 t5 t6 t7 y9 y10 t11 t12 t13 t14 y16 y17 p b out _ = _
    rw [spec_YardIn.l6, if_neg (by omega)]
    have e := (yard_eq _ (hS out ho) kq hkq).1
    unfold endS
    by_cases c1 : b = true
    ·rw [if_pos c1, if_pos c1]; rfl
    ·rw [if_neg c1, if_neg c1]
     by_cases c2 : p = (l.length : Int)
     ·rw [if_pos c2, if_pos c2]
      refine (congrArg (fun o => Option.bind o _) e).trans ?_
      rw [Option.bind_some]
      by_cases c3 : yardB (mkY t1.1 t2.1 y3.2.2 t4.1 t5.1 t6.1 t7.1 y9.2.2 y10.2.2 t11.1 (decide (t12.1 = 1)) t13.1 t14.1 y16.2.2 y17.2.2 out) = true
      ·rw [if_pos c3, if_pos c3]; rfl
      ·rw [if_neg c3, if_neg c3]; rfl
     ·rw [if_neg c2, if_neg c2]; rfl) T.1.toNat 0 k p b [] (by omega) (by omega) hp (by simp; omega)
 simpa using h
theorem impl3 (l : List Int) (t1 t2 : Int × Nat × Bool) (y3 : Nat × Bool × List Int) (t4 t5 t6 t7 : Int × Nat × Bool) (y9 : Nat × Bool × List S51) (y10 : List Int × Nat × Bool) (t11 t12 t13 t14 : Int × Nat × Bool) (y16 : Nat × Bool × List S53)
  (hw : y16.2.2.length ≤ 10) (p : Nat) (b : Bool) (k : Nat) (hk : 3100000 ≤ k) (Y17 : List S55 × Nat × Bool) (hY : Y17 = iter (iJob l) y16.2.2.length p b) (U : Int × Nat × Bool) (hU : U = iNext l 64 Y17.2.1 Y17.2.2) (Y19 : List Int × Nat × Bool) (hY2 : Y19 = iterE (iAny l) U.1.toNat U.2.1 U.2.2) :
  impl_numbers_yardIn.l3 k y16 l t1 t2 y3 t4 t5 t6 t7 y9 y10 t11 t12 t13 t14 p b [] 0 = some (mkY t1.1 t2.1 y3.2.2 t4.1 t5.1 t6.1 t7.1 y9.2.2 y10.1 t11.1 (decide (t12.1 = 1)) t13.1 t14.1 y16.2.2 Y17.1 Y19.1, Y19.2.1, Y19.2.2) := by
 have h := loopG (iJob l) (fun _ => True) (fun k p b out i => impl_numbers_yardIn.l3 k y16 l t1 t2 y3 t4 t5 t6 t7 y9 y10 t11 t12 t13 t14 p b out i) (fun p b out => some (mkY t1.1 t2.1 y3.2.2 t4.1 t5.1 t6.1 t7.1 y9.2.2 y10.1 t11.1 (decide (t12.1 = 1)) t13.1 t14.1 y16.2.2 out (iterE (iAny l) (iNext l 64 p b).1.toNat (iNext l 64 p b).2.1 (iNext l 64 p b).2.2).1, (iterE (iAny l) (iNext l 64 p b).1.toNat (iNext l 64 p b).2.1 (iNext l 64 p b).2.2).2.1, (iterE (iAny l) (iNext l 64 p b).1.toNat (iNext l 64 p b).2.1 (iNext l 64 p b).2.2).2.2)) (fun i => (i : Int)) y16.2.2.length 1000 24 1000 (by omega) (by omega) (fun p b hp => trivial)
  (fun kq p b out i hi _ hp => by
    show impl_numbers_yardIn.l3 (kq + 1) y16 l t1 t2 y3 t4 t5 t6 t7 y9 y10 t11 t12 t13 t14 p b out _ = _
    rw [impl_numbers_yardIn.l3, if_pos (by omega), iAny_eq, Option.bind_some, iAny_eq, Option.bind_some, iAny_eq, Option.bind_some, wn (i := i) (by omega)]
    rfl)
  (fun kq p b out hkq _ ho => by
    show impl_numbers_yardIn.l3 (kq + 1) y16 l t1 t2 y3 t4 t5 t6 t7 y9 y10 t11 t12 t13 t14 p b out _ = _
    rw [impl_numbers_yardIn.l3, if_neg (by omega), iNext_eq, Option.bind_some, implSome l _ (next_rng l (m := 64) (by omega) p b) _ _ kq hkq, Option.bind_some]
    rfl) y16.2.2.length 0 k p b [] (by omega) (by omega) trivial (by simp; omega)
 subst hY hU hY2
 simpa using h
def endI (l : List Int) (y : S35) (b : Bool) : S35 × Bool := if b = true then (zY, false) else if yardB y = true ∧ numsL y = l then (y, true) else (zY, false)
theorem implEnd (l : List Int) (y : S35) (j : Nat) (b : Bool) (hS : Sized y) (k : Nat) (hk : 5300000 ≤ k) (h : impl_numbers_yardIn.f k l 0 false = some (y, j, b)) : impl_YardIn.f k l = some (endI l y b) := by
 unfold impl_YardIn.f
 rw [h, Option.bind_some]
 unfold endI
 by_cases c1 : b = true
 ·rw [if_pos c1, if_pos c1]; rfl
 rw [if_neg c1, if_neg c1]
 show (impl_YardOk.f k y).bind _ = _
 rw [(yard_eq y hS k (by omega)).2.1, Option.bind_some]
 by_cases c2 : yardB y = true
 ·rw [if_pos c2]
  show (impl_YardNums.f k y).bind _ = _
  obtain ⟨e, h4⟩ := nums_eq y hS k hk
  rw [e, Option.bind_some, List.drop_zero, equalInts _ _ (by omega) k (by omega), Option.bind_some]
  unfold numsR
  rw [if_pos c2]
  by_cases c3 : numsL y = l
  ·rw [if_pos (by simpa using c3), if_pos ⟨c2, c3⟩]
  ·rw [if_neg (by simpa using c3), if_neg (fun h => c3 h.2)]; rfl
 ·rw [if_neg c2, if_neg (fun h => c2 h.1)]; rfl
set_option maxHeartbeats 2000000 in
theorem yardIn_eq (l : List Int) (hl : l.length ≤ 1048576) (k : Nat) (hk : 6000000 ≤ k) : ∃ y b, spec_YardIn.f k l = some (y, b) ∧ impl_YardIn.f k l = some (y, b) ∧ Sized y := by
 have J0 : Jn l [] 0 false 0 false := ⟨by omega, by omega, .inr ⟨rfl, rfl, rfl, by simp⟩⟩
 have e1 := sCount_eq l hl 8 0 (by omega) false J0.1 J0.2.1
 have f1 := iNext_eq l 8 0 false
 have r1 := count_rng l (m := 8) (by omega) 0 false
 have s1 := next_rng l (m := 8) (by omega) 0 false
 obtain ⟨J1, G1⟩ := pair_count l 8 _ _ _ _ _ J0
 generalize sCount l 8 0 false = T1 at e1 r1 J1 G1
 generalize iNext l 8 0 false = U1 at f1 s1 J1 G1
 have e2 := sCount_eq l hl 8 T1.2.1 (by omega) T1.2.2 J1.1 J1.2.1
 have f2 := iNext_eq l 8 U1.2.1 U1.2.2
 have r2 := count_rng l (m := 8) (by omega) T1.2.1 T1.2.2
 have s2 := next_rng l (m := 8) (by omega) U1.2.1 U1.2.2
 obtain ⟨J2, G2⟩ := pair_count l 8 _ _ _ _ _ J1
 generalize sCount l 8 T1.2.1 T1.2.2 = T2 at e2 r2 J2 G2
 generalize iNext l 8 U1.2.1 U1.2.2 = U2 at f2 s2 J2 G2
 have e3 := spec0 l hl T1 T2 r1 r2 T2.2.1 T2.2.2 ⟨J2.1, J2.2.1⟩ k (by omega)
 have f3 := impl0 l U1 U2 s1 s2 U2.2.1 U2.2.2 k (by omega)
 obtain ⟨J3, G3⟩ := pair_two (F := iter (sCount l 255)) (G := iter (iNext l 255)) (fun n => pair_iter (pair_count l 255) n) J2 (n := (T1.1 * T2.1).toNat) (n' := (U1.1 * U2.1).toNat) (fun h => by rw [(G2 h).2, (G1 (G2 h).1).2])
 have C3 := iter_all (q := fun v : Int => 0 ≤ v ∧ v ≤ 255) (sCount l 255) (fun p b => count_rng l (by omega) p b) (T1.1 * T2.1).toNat T2.2.1 T2.2.2
 have D3 := iter_all (q := fun v : Int => 0 ≤ v ∧ v ≤ 255) (iNext l 255) (fun p b => next_rng l (by omega) p b) (U1.1 * U2.1).toNat U2.2.1 U2.2.2
 have m1 := mulY r1 r2
 have m2 := mulY s1 s2
 have L3 := iter_len (sCount l 255) (T1.1 * T2.1).toNat T2.2.1 T2.2.2
 have M3 := iter_len (iNext l 255) (U1.1 * U2.1).toNat U2.2.1 U2.2.2
 generalize iter (sCount l 255) (T1.1 * T2.1).toNat T2.2.1 T2.2.2 = T3 at e3 J3 G3 L3 C3
 generalize iter (iNext l 255) (U1.1 * U2.1).toNat U2.2.1 U2.2.2 = U3 at f3 J3 G3 M3 D3
 have e4 := sNext_eq l hl T3.2.1 T3.2.2 J3.1 J3.2.1
 have f4 := iAny_eq l U3.2.1 U3.2.2
 obtain ⟨J4, G4⟩ := pair_any l _ _ _ _ _ J3
 generalize sNext l T3.2.1 T3.2.2 = T4 at e4 J4 G4
 generalize iAny l U3.2.1 U3.2.2 = U4 at f4 J4 G4
 have e5 := sCount_eq l hl 8 T4.2.1 (by omega) T4.2.2 J4.1 J4.2.1
 have f5 := iNext_eq l 8 U4.2.1 U4.2.2
 have r5 := count_rng l (m := 8) (by omega) T4.2.1 T4.2.2
 have s5 := next_rng l (m := 8) (by omega) U4.2.1 U4.2.2
 obtain ⟨J5, G5⟩ := pair_count l 8 _ _ _ _ _ J4
 generalize sCount l 8 T4.2.1 T4.2.2 = T5 at e5 r5 J5 G5
 generalize iNext l 8 U4.2.1 U4.2.2 = U5 at f5 s5 J5 G5
 have e6 := sNext_eq l hl T5.2.1 T5.2.2 J5.1 J5.2.1
 have f6 := iAny_eq l U5.2.1 U5.2.2
 obtain ⟨J6, G6⟩ := pair_any l _ _ _ _ _ J5
 generalize sNext l T5.2.1 T5.2.2 = T6 at e6 J6 G6
 generalize iAny l U5.2.1 U5.2.2 = U6 at f6 J6 G6
 have e7 := sNext_eq l hl T6.2.1 T6.2.2 J6.1 J6.2.1
 have f7 := iAny_eq l U6.2.1 U6.2.2
 obtain ⟨J7, G7⟩ := pair_any l _ _ _ _ _ J6
 generalize sNext l T6.2.1 T6.2.2 = T7 at e7 J7 G7
 generalize iAny l U6.2.1 U6.2.2 = U7 at f7 J7 G7
 have e8 := sCount_eq l hl 10 T7.2.1 (by omega) T7.2.2 J7.1 J7.2.1
 have f8 := iNext_eq l 10 U7.2.1 U7.2.2
 have r8 := count_rng l (m := 10) (by omega) T7.2.1 T7.2.2
 have s8 := next_rng l (m := 10) (by omega) U7.2.1 U7.2.2
 obtain ⟨J8, G8⟩ := pair_count l 10 _ _ _ _ _ J7
 generalize sCount l 10 T7.2.1 T7.2.2 = T8 at e8 r8 J8 G8
 generalize iNext l 10 U7.2.1 U7.2.2 = U8 at f8 s8 J8 G8
 have e9 := spec1 l hl T8 r8 T8.2.1 T8.2.2 ⟨J8.1, J8.2.1⟩ k (by omega)
 have f9 := impl1 l U8.1 s8 U8.2.1 U8.2.2 k (by omega)
 obtain ⟨J9, G9⟩ := pair_two (F := iter (sRobot l)) (G := iter (iRobot l)) (fun n => pair_iter (pair_robot l) n) J8 (n := T8.1.toNat) (n' := U8.1.toNat) (fun h => by rw [(G8 h).2])
 have L9 := iter_len (sRobot l) T8.1.toNat T8.2.1 T8.2.2
 have M9 := iter_len (iRobot l) U8.1.toNat U8.2.1 U8.2.2
 generalize iter (sRobot l) T8.1.toNat T8.2.1 T8.2.2 = T9 at e9 J9 G9 L9
 generalize iter (iRobot l) U8.1.toNat U8.2.1 U8.2.2 = U9 at f9 J9 G9 M9
 have e10 := spec2 l hl T5 r5 T9.2.1 T9.2.2 ⟨J9.1, J9.2.1⟩ k (by omega)
 have f10 := implSome l (U5.1 * 6) (by omega) U9.2.1 U9.2.2 k (by omega)
 obtain ⟨J10, G10⟩ := pair_two (F := iter (sNext l)) (G := iterE (iAny l)) (fun n => pair_iterE (pair_any l) n) J9 (n := (T5.1 * 6).toNat) (n' := (U5.1 * 6).toNat) (fun h => by rw [(G5 (G6 (G7 (G8 (G9 h).1).1).1).1).2])
 have L10 := iter_len (sNext l) (T5.1 * 6).toNat T9.2.1 T9.2.2
 have M10 := iterE_len (iAny l) (U5.1 * 6).toNat U9.2.1 U9.2.2
 generalize iter (sNext l) (T5.1 * 6).toNat T9.2.1 T9.2.2 = T10 at e10 J10 G10 L10
 generalize iterE (iAny l) (U5.1 * 6).toNat U9.2.1 U9.2.2 = U10 at f10 J10 G10 M10
 have e11 := sNext_eq l hl T10.2.1 T10.2.2 J10.1 J10.2.1
 have f11 := iAny_eq l U10.2.1 U10.2.2
 obtain ⟨J11, G11⟩ := pair_any l _ _ _ _ _ J10
 generalize sNext l T10.2.1 T10.2.2 = T11 at e11 J11 G11
 generalize iAny l U10.2.1 U10.2.2 = U11 at f11 J11 G11
 have e12 := sCount_eq l hl 1 T11.2.1 (by omega) T11.2.2 J11.1 J11.2.1
 have f12 := iAny_eq l U11.2.1 U11.2.2
 obtain ⟨J12, G12⟩ := pair_flag l _ _ _ _ _ J11
 simp only [sFlag, iFlag] at J12 G12
 generalize sCount l 1 T11.2.1 T11.2.2 = T12 at e12 J12 G12
 generalize iAny l U11.2.1 U11.2.2 = U12 at f12 J12 G12
 have e13 := sCount_eq l hl 20 T12.2.1 (by omega) T12.2.2 J12.1 J12.2.1
 have f13 := iNext_eq l 20 U12.2.1 U12.2.2
 have r13 := count_rng l (m := 20) (by omega) T12.2.1 T12.2.2
 have s13 := next_rng l (m := 20) (by omega) U12.2.1 U12.2.2
 obtain ⟨J13, G13⟩ := pair_count l 20 _ _ _ _ _ J12
 generalize sCount l 20 T12.2.1 T12.2.2 = T13 at e13 r13 J13 G13
 generalize iNext l 20 U12.2.1 U12.2.2 = U13 at f13 s13 J13 G13
 have e14 := sNext_eq l hl T13.2.1 T13.2.2 J13.1 J13.2.1
 have f14 := iAny_eq l U13.2.1 U13.2.2
 obtain ⟨J14, G14⟩ := pair_any l _ _ _ _ _ J13
 generalize sNext l T13.2.1 T13.2.2 = T14 at e14 J14 G14
 generalize iAny l U13.2.1 U13.2.2 = U14 at f14 J14 G14
 have e15 := sCount_eq l hl 10 T14.2.1 (by omega) T14.2.2 J14.1 J14.2.1
 have f15 := iNext_eq l 10 U14.2.1 U14.2.2
 have r15 := count_rng l (m := 10) (by omega) T14.2.1 T14.2.2
 have s15 := next_rng l (m := 10) (by omega) U14.2.1 U14.2.2
 obtain ⟨J15, G15⟩ := pair_count l 10 _ _ _ _ _ J14
 generalize sCount l 10 T14.2.1 T14.2.2 = T15 at e15 r15 J15 G15
 generalize iNext l 10 U14.2.1 U14.2.2 = U15 at f15 s15 J15 G15
 have e16 := spec3 l hl T15 T13 r15 r13 T15.2.1 T15.2.2 ⟨J15.1, J15.2.1⟩ k (by omega)
 have f16 := impl2 l U13 U15.1 s15 s13 U15.2.1 U15.2.2 k (by omega)
 obtain ⟨J16, G16⟩ := pair_two (F := fun n : Nat × Nat => iter (sWay l n.1) n.2) (G := fun n : Nat × Nat => iter (iWay l n.1) n.2) (fun n => pair_iter (pair_way l n.1) n.2) J15 (n := ((T13.1 + 1).toNat, T15.1.toNat)) (n' := ((U13.1 + 1).toNat, U15.1.toNat)) (fun h => by rw [(G15 h).2, (G13 (G14 (G15 h).1).1).2])
 simp only at J16 G16
 have C16 := iter_all (q := fun w : S53 => w.f0.length ≤ 21) (sWay l (T13.1 + 1).toNat) (fun p b => by show (iter (sNext l) _ p b).1.length ≤ 21; rw [iter_len]; omega) T15.1.toNat T15.2.1 T15.2.2
 have D16 := iter_all (q := fun w : S53 => w.f0.length ≤ 21) (iWay l (U13.1 + 1).toNat) (fun p b => by show (iterE (iAny l) _ p b).1.length ≤ 21; have := iterE_len (iAny l) (U13.1 + 1).toNat p b; omega) U15.1.toNat U15.2.1 U15.2.2
 have L16 := iter_len (sWay l (T13.1 + 1).toNat) T15.1.toNat T15.2.1 T15.2.2
 have M16 := iter_len (iWay l (U13.1 + 1).toNat) U15.1.toNat U15.2.1 U15.2.2
 generalize iter (sWay l (T13.1 + 1).toNat) T15.1.toNat T15.2.1 T15.2.2 = T16 at e16 J16 G16 L16 C16
 generalize iter (iWay l (U13.1 + 1).toNat) U15.1.toNat U15.2.1 U15.2.2 = U16 at f16 J16 G16 M16 D16
 have e17 := spec5 l hl T15 r15 T16.2.1 T16.2.2 ⟨J16.1, J16.2.1⟩ k (by omega)
 obtain ⟨J17, G17⟩ := pair_two (F := iter (sJob l)) (G := iter (iJob l)) (fun n => pair_iter (pair_job l) n) J16 (n := T15.1.toNat) (n' := U16.1.length) (fun h => by rw [M16, (G15 (G16 h).1).2])
 have L17 := iter_len (sJob l) T15.1.toNat T16.2.1 T16.2.2
 have M17 := iter_len (iJob l) U16.1.length U16.2.1 U16.2.2
 obtain ⟨U17, hU17⟩ : ∃ U, U = iter (iJob l) U16.1.length U16.2.1 U16.2.2 := ⟨_, rfl⟩
 generalize iter (sJob l) T15.1.toNat T16.2.1 T16.2.2 = T17 at e17 J17 G17 L17
 rw [← hU17] at J17 G17 M17
 have hST : ∀ out : List Int, out.length ≤ 1000 → Sized (mkY T1.1 T2.1 T3.1 T4.1 T5.1 T6.1 T7.1 T9.1 T10.1 T11.1 (decide (T12.1 = 1)) T13.1 T14.1 T16.1 T17.1 out) := fun out ho => ⟨by show (strOf _).size ≤ _; rw [strOf_size]; omega, by show T9.1.length ≤ _; omega, by show T10.1.length ≤ _; omega, by show T16.1.length ≤ _; omega, fun w hw => by have := C16 w hw; omega, by show T17.1.length ≤ _; omega, by show out.length ≤ _; omega⟩
 have e18 := sCount_eq l hl 64 T17.2.1 (by omega) T17.2.2 J17.1 J17.2.1
 have f18 := iNext_eq l 64 U17.2.1 U17.2.2
 have r18 := count_rng l (m := 64) (by omega) T17.2.1 T17.2.2
 have s18 := next_rng l (m := 64) (by omega) U17.2.1 U17.2.2
 obtain ⟨J18, G18⟩ := pair_count l 64 _ _ _ _ _ J17
 generalize sCount l 64 T17.2.1 T17.2.2 = T18 at e18 r18 J18 G18
 obtain ⟨U18, hU18⟩ : ∃ U, U = iNext l 64 U17.2.1 U17.2.2 := ⟨_, rfl⟩
 rw [← hU18] at f18 s18 J18 G18
 obtain ⟨J19, G19⟩ := pair_two (F := iter (sNext l)) (G := iterE (iAny l)) (fun n => pair_iterE (pair_any l) n) J18 (n := T18.1.toNat) (n' := U18.1.toNat) (fun h => by rw [(G18 h).2])
 have L19 := iter_len (sNext l) T18.1.toNat T18.2.1 T18.2.2
 have M19 := iterE_len (iAny l) U18.1.toNat U18.2.1 U18.2.2
 obtain ⟨U19, hU19⟩ : ∃ U, U = iterE (iAny l) U18.1.toNat U18.2.1 U18.2.2 := ⟨_, rfl⟩
 have e19 := spec6 l hl T18 T1 T2 (T3.2.1, T3.2.2, T3.1) T4 T5 T6 T7 (T9.2.1, T9.2.2, T9.1) (T10.2.1, T10.2.2, T10.1) T11 T12 T13 T14 (T16.2.1, T16.2.2, T16.1) (T17.2.1, T17.2.2, T17.1) r18 T18.2.1 T18.2.2 ⟨J18.1, J18.2.1⟩ k (by omega) hST
 generalize iter (sNext l) T18.1.toNat T18.2.1 T18.2.2 = T19 at e19 J19 G19 L19
 rw [← hU19] at J19 G19 M19
 have hB : isBytes T3.1 = true := by
  unfold isBytes
  rw [List.all_eq_true]
  intro v hv
  have := C3 v hv
  simp only [Bool.and_eq_true, decide_eq_true_eq]
  omega
 have hB' : isBytes U3.1 = true := by
  unfold isBytes
  rw [List.all_eq_true]
  intro v hv
  have := D3 v hv
  simp only [Bool.and_eq_true, decide_eq_true_eq]
  omega
 have hs : spec_YardIn.f k l = some (endS l (mkY T1.1 T2.1 T3.1 T4.1 T5.1 T6.1 T7.1 T9.1 T10.1 T11.1 (decide (T12.1 = 1)) T13.1 T14.1 T16.1 T17.1 T19.1) T19.2.1 T19.2.2) := by
  unfold spec_YardIn.f
  rw [e1, Option.bind_some, e2, Option.bind_some, e3, Option.bind_some, if_pos hB, e4, Option.bind_some, e5, Option.bind_some, e6, Option.bind_some, e7, Option.bind_some, e8, Option.bind_some, e9, Option.bind_some, e10, Option.bind_some, e11, Option.bind_some, e12, Option.bind_some, e13, Option.bind_some, e14, Option.bind_some, e15, Option.bind_some, e16, Option.bind_some, e17, Option.bind_some, e18, Option.bind_some]
  exact e19
 have f17 := impl3 l U1 U2 (U3.2.1, U3.2.2, U3.1) U4 U5 U6 U7 (U9.2.1, U9.2.2, U9.1) U10 U11 U12 U13 U14 (U16.2.1, U16.2.2, U16.1) (by show U16.1.length ≤ 10; omega) U16.2.1 U16.2.2 k (by omega) U17 hU17 U18 hU18 U19 hU19
 have hi : impl_numbers_yardIn.f k l 0 false = some (mkY U1.1 U2.1 U3.1 U4.1 U5.1 U6.1 U7.1 U9.1 U10.1 U11.1 (decide (U12.1 = 1)) U13.1 U14.1 U16.1 U17.1 U19.1, U19.2.1, U19.2.2) := by
  unfold impl_numbers_yardIn.f
  rw [f1, Option.bind_some, f2, Option.bind_some, f3, Option.bind_some, if_pos hB', f4, Option.bind_some, f5, Option.bind_some, f6, Option.bind_some, f7, Option.bind_some, f8, Option.bind_some, f9, Option.bind_some, w64e (x := U5.1 * 6) (by omega) (by omega), f10, Option.bind_some, f11, Option.bind_some, f12, Option.bind_some, f13, Option.bind_some, f14, Option.bind_some, f15, Option.bind_some, f16, Option.bind_some]
  exact f17
 have hSU : Sized (mkY U1.1 U2.1 U3.1 U4.1 U5.1 U6.1 U7.1 U9.1 U10.1 U11.1 (decide (U12.1 = 1)) U13.1 U14.1 U16.1 U17.1 U19.1) := ⟨by show (strOf _).size ≤ _; rw [strOf_size]; omega, by show U9.1.length ≤ _; omega, by show U10.1.length ≤ _; omega, by show U16.1.length ≤ _; omega, fun w hw => by have := D16 w hw; omega, by show U17.1.length ≤ _; omega, by show U19.1.length ≤ _; omega⟩
 rw [hs, implEnd l _ _ _ hSU k (by omega) hi]
 clear hs hi e1 e2 e3 e4 e5 e6 e7 e8 e9 e10 e11 e12 e13 e14 e15 e16 e17 e18 e19 f1 f2 f3 f4 f5 f6 f7 f8 f9 f10 f11 f12 f13 f14 f15 f16 f17 hU17 hU18 hU19
 rcases Bool.eq_false_or_eq_true U19.2.2 with hb | hb
 ·have hb2 : T19.2.2 = true := by
   rcases J19.2.2 with ⟨_, h⟩ | ⟨h, _⟩
   ·exact h
   ·rw [hb] at h; cases h
  unfold endS endI
  rw [if_pos hb, if_pos hb2]
  exact ⟨_, _, rfl, rfl, zY_sized⟩
 obtain ⟨g18, v19⟩ := G19 hb
 obtain ⟨g17, v18⟩ := G18 g18
 obtain ⟨g16, v17⟩ := G17 g17
 obtain ⟨g15, v16⟩ := G16 g16
 obtain ⟨g14, v15⟩ := G15 g15
 obtain ⟨g13, v14⟩ := G14 g14
 obtain ⟨g12, v13⟩ := G13 g13
 obtain ⟨g11, v12⟩ := G12 g12
 obtain ⟨g10, v11⟩ := G11 g11
 obtain ⟨g9, v10⟩ := G10 g10
 obtain ⟨g8, v9⟩ := G9 g9
 obtain ⟨g7, v8⟩ := G8 g8
 obtain ⟨g6, v7⟩ := G7 g7
 obtain ⟨g5, v6⟩ := G6 g6
 obtain ⟨g4, v5⟩ := G5 g5
 obtain ⟨g3, v4⟩ := G4 g4
 obtain ⟨g2, v3⟩ := G3 g3
 obtain ⟨g1, v2⟩ := G2 g2
 obtain ⟨g0, v1⟩ := G1 g1
 rw [← v1, ← v2, ← v3, ← v4, ← v5, ← v6, ← v7, ← v9, ← v10, ← v11, ← v12, ← v13, ← v14, ← v16, ← v17, ← v19]
 rcases J19.2.2 with ⟨h, _⟩ | ⟨_, hp, hlen, hbt⟩
 ·rw [hb] at h; cases h
 have hn : numsL (mkY T1.1 T2.1 T3.1 T4.1 T5.1 T6.1 T7.1 T9.1 T10.1 T11.1 (decide (T12.1 = 1)) T13.1 T14.1 T16.1 T17.1 T19.1) = l ↔ T19.2.2 = false ∧ T19.2.1 = (l.length : Int) := by
  rw [mkY_nums _ _ _ C3]
  have w1 : (T9.1.length : Int) = U8.1 := by rw [v9]; omega
  have w2 : (T16.1.length : Int) = U15.1 := by rw [v16]; omega
  have w3 : (T19.1.length : Int) = U18.1 := by rw [← v18]; omega
  rw [w1, w2, w3, v1, v2, v3, v4, v5, v6, v7, v9, v10, v11, v12, v13, v14, v16, v17, v19]
  simp only [List.nil_append, fm_id] at hlen hbt
  rw [hbt]
  constructor
  ·intro e
   rw [e] at hlen ⊢
   refine ⟨?_, by omega⟩
   rw [← hlen, List.take_length]
  ·rintro ⟨h1, h2⟩
   rw [h1]
   exact List.take_of_length_le (by omega)
 unfold endS endI
 rw [if_neg (show ¬ U19.2.2 = true by rw [hb]; simp)]
 by_cases c1 : T19.2.2 = true
 ·rw [if_pos c1, if_neg (fun h => by have := (hn.1 h.2).1; rw [c1] at this; cases this)]
  exact ⟨_, _, rfl, rfl, zY_sized⟩
 have c1' : T19.2.2 = false := by simpa using c1
 rw [if_neg c1]
 by_cases c2 : T19.2.1 = (l.length : Int)
 ·rw [if_pos c2]
  by_cases c3 : yardB (mkY T1.1 T2.1 T3.1 T4.1 T5.1 T6.1 T7.1 T9.1 T10.1 T11.1 (decide (T12.1 = 1)) T13.1 T14.1 T16.1 T17.1 T19.1) = true
  ·rw [if_pos c3, if_pos ⟨c3, hn.2 ⟨c1', c2⟩⟩]
   exact ⟨_, _, rfl, rfl, hST _ (by omega)⟩
  ·rw [if_neg c3, if_neg (fun h => c3 h.1)]
   exact ⟨_, _, rfl, rfl, zY_sized⟩
 ·rw [if_neg c2, if_neg (fun h => c2 (hn.1 h.2).2)]
  exact ⟨_, _, rfl, rfl, zY_sized⟩
end Go.Proofs.YtfhjipfkaemapaaGreat.Pu