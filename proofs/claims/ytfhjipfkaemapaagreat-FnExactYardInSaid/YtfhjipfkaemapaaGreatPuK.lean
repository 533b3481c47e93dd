/- Plain laws about what the functions compute: rows that are marked. -/
import Derived.Test.YtfhjipfkaemapaaGreatPuJ
namespace Go.Proofs.YtfhjipfkaemapaaGreat.Pu
open Go Go.Av Go.Proofs Go.Proofs.YtfhjipfkaemapaaGreat.V
set_option linter.unusedVariables false
set_option linter.unusedSimpArgs false
theorem mark_gen {β : Type} (z : β) (l : List β) (hl : l.length ≤ 1048576) (v : Nat → Int) (f : Nat → β) (L : Nat → List β → Int → Int → Option (Int × List β)) (C : Nat)
  (h1 : ∀ kq out i (hi : i < l.length), C ≤ kq → out.length = l.length → rdD z out (i : Int) = l[i] → L (kq + 1) out (v i) (i : Int) = L kq (out.set i (f i)) (v (i + 1)) (w64 ((i : Int) + 1)))
  (h2 : ∀ kq out x, C ≤ kq → out.length = l.length → L (kq + 1) out x (l.length : Int) = some (x, out)) :
  ∀ k, C + l.length < k → L k l (v 0) 0 = some (v l.length, (List.range' 0 l.length).map f) := by
 have go : ∀ (d i k : Nat), i + d = l.length → C + d < k → L k ((List.range' 0 i).map f ++ l.drop i) (v i) (i : Int) = some (v l.length, (List.range' 0 l.length).map f) := by
  intro d
  induction d with
  | zero =>
    intro i k hi hk
    obtain ⟨k, rfl⟩ := ks hk
    obtain rfl : i = l.length := by omega
    rw [h2 k _ _ (by omega) (by simp), List.drop_length, List.append_nil]
  | succ d ih =>
    intro i k hi hk
    obtain ⟨k, rfl⟩ := ks hk
    have hil : i < l.length := by omega
    have hlen : ((List.range' 0 i).map f).length = i := by simp
    have hrd : rdD z ((List.range' 0 i).map f ++ l.drop i) (i : Int) = l[i] := by
     rw [rdn z _ i (by simp; omega), List.getElem_append_right (by omega)]
     simp [hlen]
    rw [h1 k _ i hil (by omega) (by simp; omega) hrd, wn (by omega)]
    have e : ((List.range' 0 i).map f ++ l.drop i).set i (f i) = (List.range' 0 (i + 1)).map f ++ l.drop (i + 1) := by
     rw [List.set_append_right _ _ (by omega), hlen, Nat.sub_self, List.drop_eq_getElem_cons hil, List.set_cons_zero, List.range'_concat, List.map_append]
     simp
    rw [e]
    exact ih (i + 1) k (by omega) (by omega)
 intro k hk
 have := go l.length 0 k (by omega) (by omega)
 simpa using this
theorem held_gen (n : Nat) (hn : n ≤ 1048576) (v : Nat → Int) (L : Nat → Int → Int → Option Int) (C : Nat)
  (h1 : ∀ kq i, i < n → C ≤ kq → L (kq + 1) (v i) (i : Int) = L kq (v (i + 1)) (w64 ((i : Int) + 1))) (h2 : ∀ kq x, C ≤ kq → L (kq + 1) x (n : Int) = some x) :
  ∀ k, C + n < k → L k (v 0) 0 = some (v n) := by
 have go : ∀ (d i k : Nat), i + d = n → C + d < k → L k (v i) (i : Int) = some (v n) := by
  intro d
  induction d with
  | zero =>
    intro i k hi hk
    obtain ⟨k, rfl⟩ := ks hk
    obtain rfl : i = n := by omega
    exact h2 k _ (by omega)
  | succ d ih =>
    intro i k hi hk
    obtain ⟨k, rfl⟩ := ks hk
    rw [h1 k i (by omega) (by omega), wn (by omega)]
    exact ih (i + 1) k (by omega) (by omega)
 intro k hk
 exact go n 0 k (by omega) (by omega)
theorem rd_map {β : Type} (z : β) (f : Nat → β) (n i : Nat) (hi : i < n) : rdD z ((List.range' 0 n).map f) (i : Int) = f i := by
 rw [rdn z _ i (by simpa using hi)]
 simp
def mkI (a : Int) (n : Nat) : List Int := (List.range' 0 n).map fun i => a + (i : Nat)
theorem markInts (l : List Int) (hl : l.length ≤ 1048576) (a : Int) (ha : 0 ≤ a ∧ a ≤ 4000000000000000) (k : Nat) (hk : 1100000 ≤ k) : laws_markIntS.f k l a = some (a + l.length, mkI a l.length) := by
 have h := mark_gen 0 l hl (fun i => a + (i : Nat)) (fun i => a + (i : Nat)) (fun k o v i => laws_markIntS.l0 k o v i) 0
  (fun kq out i hi _ ho _ => by
    show laws_markIntS.l0 (kq + 1) out _ _ = _
    rw [laws_markIntS.l0, if_pos (by omega), if_pos (by omega), w64e (x := a + (i : Nat) + 1) (by omega) (by omega), Int.toNat_natCast]
    have e : a + (i : Int) + 1 = a + ((i + 1 : Nat) : Int) := by omega
    rw [e])
  (fun kq out x _ ho => by show laws_markIntS.l0 (kq + 1) out _ _ = _; rw [laws_markIntS.l0, if_neg (by omega)]) k (by omega)
 unfold laws_markIntS.f mkI
 simpa using h
def mkRobot (a : Int) (i : Nat) : S51 := ⟨a + 4 * (i : Nat), w64 (a + 4 * (i : Nat) + 1), w64 (w64 (a + 4 * (i : Nat) + 1) + 1), decide ((w64 (w64 (w64 (a + 4 * (i : Nat) + 1) + 1) + 1)).tmod 3 = 0)⟩
theorem markRobots (l : List S51) (hl : l.length ≤ 1048576) (a : Int) (ha : 0 ≤ a ∧ a ≤ 4000000000000000) (k : Nat) (hk : 1100000 ≤ k) : laws_markRobotS.f k l a = some (a + 4 * l.length, (List.range' 0 l.length).map (mkRobot a)) := by
 have h := mark_gen z51 l hl (fun i => a + 4 * (i : Nat)) (mkRobot a) (fun k o v i => laws_markRobotS.l0 k o v i) 0
  (fun kq out i hi _ ho _ => by
    show laws_markRobotS.l0 (kq + 1) out _ _ = _
    have e : w64 (w64 (w64 (w64 (a + 4 * (i : Nat) + 1) + 1) + 1) + 1) = a + 4 * ((i + 1 : Nat) : Int) := by
     rw [w64e (x := a + 4 * (i : Nat) + 1) (by omega) (by omega), w64e (x := a + 4 * (i : Nat) + 1 + 1) (by omega) (by omega), w64e (x := a + 4 * (i : Nat) + 1 + 1 + 1) (by omega) (by omega), w64e (by omega) (by omega)]
     omega
    rw [laws_markRobotS.l0, if_pos (by omega), if_pos (by omega), e, Int.toNat_natCast]
    rfl)
  (fun kq out x _ ho => by show laws_markRobotS.l0 (kq + 1) out _ _ = _; rw [laws_markRobotS.l0, if_neg (by omega)]) k (by omega)
 unfold laws_markRobotS.f
 simpa using h
def mkJob (a : Int) (i : Nat) : S55 := ⟨a + 3 * (i : Nat), w64 (a + 3 * (i : Nat) + 1), decide ((w64 (w64 (a + 3 * (i : Nat) + 1) + 1)).tmod 3 = 0)⟩
theorem markJobs (l : List S55) (hl : l.length ≤ 1048576) (a : Int) (ha : 0 ≤ a ∧ a ≤ 4000000000000000) (k : Nat) (hk : 1100000 ≤ k) : laws_markJobS.f k l a = some (a + 3 * l.length, (List.range' 0 l.length).map (mkJob a)) := by
 have h := mark_gen z55 l hl (fun i => a + 3 * (i : Nat)) (mkJob a) (fun k o v i => laws_markJobS.l0 k o v i) 0
  (fun kq out i hi _ ho _ => by
    show laws_markJobS.l0 (kq + 1) out _ _ = _
    have e : w64 (w64 (w64 (a + 3 * (i : Nat) + 1) + 1) + 1) = a + 3 * ((i + 1 : Nat) : Int) := by
     rw [w64e (x := a + 3 * (i : Nat) + 1) (by omega) (by omega), w64e (x := a + 3 * (i : Nat) + 1 + 1) (by omega) (by omega), w64e (by omega) (by omega)]
     omega
    rw [laws_markJobS.l0, if_pos (by omega), if_pos (by omega), e, Int.toNat_natCast]
    rfl)
  (fun kq out x _ ho => by show laws_markJobS.l0 (kq + 1) out _ _ = _; rw [laws_markJobS.l0, if_neg (by omega)]) k (by omega)
 unfold laws_markJobS.f
 simpa using h
def sumW (l : List S53) : Nat → Nat
 | 0 => 0
 | i + 1 => sumW l i + (rdD z53 l (i : Int)).f0.length
theorem sumW_len (l : List S53) (hw : ∀ w ∈ l, w.f0.length ≤ 1048576) : ∀ i, i ≤ l.length → sumW l i ≤ i * 1048576
 | 0, _ => Nat.zero_le _
 | i + 1, h => by
   have h1 := sumW_len l hw i (by omega)
   have h2 := hw _ (List.getElem_mem (show i < l.length by omega))
   rw [sumW, rdn z53 l i (by omega), Nat.succ_mul]
   omega
def mkWay (l : List S53) (a : Int) (i : Nat) : S53 := ⟨mkI (a + (sumW l i : Nat)) (rdD z53 l (i : Int)).f0.length⟩
theorem markWays (l : List S53) (hl : l.length ≤ 1048576) (hw : ∀ w ∈ l, w.f0.length ≤ 1048576) (a : Int) (ha : 0 ≤ a ∧ a ≤ 2000000000000000) (k : Nat) (hk : 2300000 ≤ k) :
  laws_markWayS.f k l a = some (a + (sumW l l.length : Nat), (List.range' 0 l.length).map (mkWay l a)) := by
 have h := mark_gen z53 l hl (fun i => a + (sumW l i : Nat)) (mkWay l a) (fun k o v i => laws_markWayS.l0 k o v i) 1200000
  (fun kq out i hi hkq ho hrd => by
    show laws_markWayS.l0 (kq + 1) out _ _ = _
    have h1 := sumW_len l hw i (by omega)
    have h2 := hw _ (List.getElem_mem hi)
    have e1 : out.getD (i : Int).toNat z53 = l[i] := hrd
    have e2 : a + (sumW l i : Nat) + (l[i].f0.length : Int) = a + (sumW l (i + 1) : Nat) := by rw [sumW, rdn z53 l i hi]; omega
    rw [laws_markWayS.l0, if_pos (by omega), if_pos (by omega), e1, markInts _ h2 _ (by omega) kq (by omega), Option.bind_some]
    simp only
    rw [e2, Int.toNat_natCast, mkWay, rdn z53 l i hi])
  (fun kq out x _ ho => by show laws_markWayS.l0 (kq + 1) out _ _ = _; rw [laws_markWayS.l0, if_neg (by omega)]) k (by omega)
 unfold laws_markWayS.f
 simpa [sumW] using h
end Go.Proofs.YtfhjipfkaemapaaGreat.Pu