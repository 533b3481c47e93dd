/- Plain laws about what the functions compute: the orders of a yard. -/
import Derived.Test.YtoaknaceaghclaaGreatPuL
namespace Go.Proofs.YtoaknaceaghclaaGreat.Pu
open Go Go.Av Go.Proofs Go.Proofs.YtoaknaceaghclaaGreat.V
set_option linter.unusedVariables false
set_option linter.unusedSimpArgs false
theorem acc_gen {β : Type} (n : Nat) (hn : n ≤ 1048576) (L : Nat → List β → Int → Option (List β)) (c : Nat → Bool) (f : Nat → β) (C : Nat)
    (h1 : ∀ kq out i, i < n → C ≤ kq → out.length ≤ i → L (kq + 1) out (i : Int) = L kq (if c i = true then out ++ [f i] else out) (w64 ((i : Int) + 1))) (h2 : ∀ kq out, C ≤ kq → L (kq + 1) out (n : Int) = some out) :
    ∀ (d i k : Nat) (out : List β), i + d = n → C + d < k → out.length ≤ i → L k out (i : Int) = some (out ++ ((List.range' i d).filter c).map f) := by
  intro d
  induction d with
  | zero =>
    intro i k out hi hk ho
    obtain ⟨k, rfl⟩ := ks hk
    obtain rfl : i = n := by omega
    rw [h2 k _ (by omega)]
    simp
  | succ d ih =>
    intro i k out hi hk ho
    obtain ⟨k, rfl⟩ := ks hk
    rw [h1 k out i (by omega) (by omega) ho, wn (by omega), List.range'_succ, List.filter_cons]
    cases hc : c i
    · rw [if_neg (by simp), if_neg (by simp)]
      exact ih (i + 1) k _ (by omega) (by omega) (by omega)
    · rw [if_pos rfl, if_pos rfl, ih (i + 1) k _ (by omega) (by omega) (by simp; omega)]
      simp
theorem isHeld_eq (g : S38) (hg : gridB g = true) (l : List S69) (hn : l.length ≤ 10) (hl : ∀ r ∈ l, soloB g r = true) (c : Int) (k : Nat) (hk : 1100000 ≤ k) : impl_isHeld.f k l c = some (decide (0 ≤ holder l c)) := by
  unfold impl_isHeld.f
  by_cases hc : 0 ≤ c
  · rw [if_pos hc]
    unfold slices_ContainsFunc_impl_Robot_impl_Robot_1.f slices_IndexFunc_impl_Robot_impl_Robot_1.f
    rw [index_gen z69 slices_IndexFunc_impl_Robot_impl_Robot_1.l0 (fun _ _ _ _ => rfl) l (fun x => impl_isHeld_1.f k x c) (fun r => (heldL r).contains c) (fun x _ => by
      have := heldL_len x
      show impl_isHeld_1.f k x c = _
      unfold impl_isHeld_1.f
      rw [heldBy_eq, Option.bind_some, implHas _ _ (by omega) k (by omega), Option.bind_some]) (by omega) k (by omega), Option.bind_some]
    simp only [Option.bind_some, fidx_any]
    have h1 := holder_iff g hg l hl c hc
    congr 1
    rw [Bool.eq_iff_iff, decide_eq_true_iff, h1, List.any_eq_true]
    simp
  · rw [if_neg hc]
    unfold holder
    rw [if_pos (by omega)]
    rfl
def ordB (y : S48) (i : Nat) : Bool := decide ((rdD z74 y.f6 (i : Int)).f1 = layerI y.f6) && (!(rdD z74 y.f6 (i : Int)).f2 && !decide (0 ≤ holder y.f1 (rdD 0 (rdD z72 y.f5.f2 (i : Int)).f0 (w64 ((rdD z74 y.f6 (i : Int)).f1 + 1)))))
def ordO (y : S48) (i : Nat) : S92 := ⟨(rdD z74 y.f6 (i : Int)).f0, rdD 0 (rdD z72 y.f5.f2 (i : Int)).f0 (rdD z74 y.f6 (i : Int)).f1, rdD 0 (rdD z72 y.f5.f2 (i : Int)).f0 (w64 ((rdD z74 y.f6 (i : Int)).f1 + 1))⟩
def ordL (y : S48) : List S92 := if yardB y = true ∧ y.f4 = true then ((List.range' 0 y.f6.length).filter (ordB y)).map (ordO y) else []
theorem ordL_len (y : S48) (hF : yardB y = true → FitB y) : (ordL y).length ≤ 10 := by
  unfold ordL
  split
  · rename_i h
    have h1 := ((hF h.1).1 h.2).jobs
    have := List.length_filter_le (ordB y) (List.range' 0 y.f6.length)
    simp at this ⊢
    omega
  · simp
theorem orders_eq (y : S48) (hS : Sized y) (k : Nat) (hk : 5300000 ≤ k) : spec_OrdersOf.f k y = some (ordL y) ∧ impl_OrdersOf.f k y = some (ordL y) := by
  have hj := hS.jobs
  obtain ⟨e1, e2, hF⟩ := yard_eq y hS k (by omega)
  unfold spec_OrdersOf.f impl_OrdersOf.f ordL
  rw [e1, e2, Option.bind_some, Option.bind_some]
  cases hb : yardB y
  · simp
  cases ha : y.f4
  · simp
  rw [if_pos rfl, if_pos rfl, if_pos rfl, if_pos rfl, specLayer y (by omega) k (by omega), implLayer y (by omega) k (by omega), Option.bind_some, Option.bind_some, if_pos ⟨rfl, rfl⟩]
  have hJ := (hF hb).1 ha
  have hsp := hJ.span
  have hjn := hJ.jobs
  have hjw := hJ.ways
  have hT : teamB y.f0.f0 y.f1 = true := by
    unfold yardB at hb
    simp only [Bool.and_eq_true] at hb
    exact hb.2.1
  obtain ⟨hg, hrl, hsolo⟩ := teamB_solo hT
  have hlay : layerI y.f6 < y.f5.f0 := by
    unfold yardB jobsB at hb
    rw [if_pos ha] at hb
    simp only [Bool.and_eq_true, decide_eq_true_eq] at hb
    exact hb.2.2.2.2.2.2.1.2.2.2.2
  have hd : ∀ i, i < y.f6.length → 0 ≤ (rdD z74 y.f6 (i : Int)).f1 ∧ (rdD z74 y.f6 (i : Int)).f1 ≤ y.f5.f0 := fun i hi => by rw [rdn z74 _ i hi]; exact hJ.done _ (List.getElem_mem hi)
  have hw : ∀ i, i < y.f6.length → ((rdD z72 y.f5.f2 (i : Int)).f0.length : Int) = y.f5.f0 + 1 := fun i hi => by rw [rdn z72 _ i (by omega)]; exact hJ.cells _ (List.getElem_mem _)
  constructor
  · have h := acc_gen y.f6.length (by omega) (fun k o v => spec_OrdersOf.l0 k y (layerI y.f6) o v) (ordB y) (ordO y) 1200000
      (fun kq out i hi hkq ho => by
        show spec_OrdersOf.l0 (kq + 1) y _ out _ = _
        have hdi := hd i hi
        have hwi := hw i hi
        rw [spec_OrdersOf.l0, if_pos (by omega), if_pos (by omega), if_pos (by omega)]
        unfold ordB ordO
        by_cases c1 : (rdD z74 y.f6 (i : Int)).f1 = layerI y.f6
        · rw [if_pos c1, decide_eq_true c1]
          cases c2 : (rdD z74 y.f6 (i : Int)).f2
          · have hw1 : w64 ((rdD z74 y.f6 (i : Int)).f1 + 1) = (rdD z74 y.f6 (i : Int)).f1 + 1 := w64e (by omega) (by omega)
            rw [if_neg (by simp), hw1, if_pos (by omega), if_pos (by omega), specHolder _ _ (by omega) kq (by omega), Option.bind_some]
            by_cases c3 : 0 ≤ holder y.f1 (rdD 0 (rdD z72 y.f5.f2 (i : Int)).f0 ((rdD z74 y.f6 (i : Int)).f1 + 1))
            · rw [if_neg (by omega), decide_eq_true c3]; rfl
            · rw [if_pos (by omega), decide_eq_false c3, if_pos (by omega), if_pos (by omega), if_pos (by omega)]; rfl
          · rw [if_pos rfl]; rfl
        · rw [if_neg c1, decide_eq_false c1]; rfl)
      (fun kq out _ => by show spec_OrdersOf.l0 (kq + 1) y _ out _ = _; rw [spec_OrdersOf.l0, if_neg (by omega)]) y.f6.length 0 k [] (by omega) (by omega) (by simp)
    exact h
  · have h := acc_gen y.f6.length (by omega) (fun k o v => impl_OrdersOf.l0 k y (layerI y.f6) o v) (ordB y) (ordO y) 1200000
      (fun kq out i hi hkq ho => by
        show impl_OrdersOf.l0 (kq + 1) y _ out _ = _
        have hdi := hd i hi
        have hwi := hw i hi
        rw [impl_OrdersOf.l0, if_pos (by omega), if_pos (by omega), if_pos (by omega)]
        unfold ordB ordO
        cases c2 : (rdD z74 y.f6 (i : Int)).f2
        · rw [if_neg (by simp)]
          by_cases c1 : (rdD z74 y.f6 (i : Int)).f1 = layerI y.f6
          · have hw1 : w64 ((rdD z74 y.f6 (i : Int)).f1 + 1) = (rdD z74 y.f6 (i : Int)).f1 + 1 := w64e (by omega) (by omega)
            rw [if_pos c1, decide_eq_true c1, hw1, if_pos (by omega), if_pos (by omega), isHeld_eq _ hg _ hrl hsolo _ kq (by omega), Option.bind_some]
            by_cases c3 : 0 ≤ holder y.f1 (rdD 0 (rdD z72 y.f5.f2 (i : Int)).f0 ((rdD z74 y.f6 (i : Int)).f1 + 1))
            · rw [decide_eq_true c3, if_pos rfl]; rfl
            · rw [decide_eq_false c3, if_neg (by simp), if_pos (by omega), if_pos (by omega), if_pos (by omega)]; rfl
          · rw [if_neg c1, decide_eq_false c1]; rfl
        · rw [if_pos rfl]
          cases decide ((rdD z74 y.f6 (i : Int)).f1 = layerI y.f6) <;> rfl)
      (fun kq out _ => by show impl_OrdersOf.l0 (kq + 1) y _ out _ = _; rw [impl_OrdersOf.l0, if_neg (by omega)]) y.f6.length 0 k [] (by omega) (by omega) (by simp)
    exact h
end Go.Proofs.YtoaknaceaghclaaGreat.Pu
