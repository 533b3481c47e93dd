/- Operations that read, reckon and make: evOp. -/
import Derived.Test.YtfhjipfkaemapaaGreatAvC
import Derived.Laws.Cells
import Derived.Laws.Entries
namespace Go.Av
open Go Go.RowKit
set_option linter.unusedVariables false
set_option linter.unusedSimpArgs false
def bt (s : ByteArray) (i : Int) : Int := if h : i.toNat < s.size then ((s[i.toNat]'h).toNat : Int) else 0
def PlaceOk (base : Nat) (w : World) (σ : Sig) (cs : List CV) (ad : Addr) : Prop :=
 ∃ us : List Value, RepCs base w σ cs us ∧ ∀ (j : Nat) u, us[j]? = some u → w.cell? (ad.add j) = some u
def placeOf (H : Nat → Option Content) : AV → Option (List CV)
 | .ptr s off => match H s with
   | some (.box _ cs) => some (cs.drop off)
   | _ => none
 | .bptr fr e => some (e.map (.p fr))
 | .eptr s z j q => match H s with
   | some (.row _ z' n g fr) => if z = z' then some (((g j).drop q).map (.p fr)) else none
   | _ => none
 | _ => none
theorem add_add (ad : Addr) (m j : Nat) : (ad.add m).add j = ad.add (m + j) := by
 unfold Addr.add
 by_cases hm : m = 0
 ·subst hm; simp
 ·by_cases hj : j = 0
  ·subst hj; simp [hm]
  ·have : m + j ≠ 0 := by omega
   simp [hm, hj, this, Nat.add_assoc]
section
variable {P : Program} {base : Nat} {w : World} {σ : Sig}
theorem RepCs.drop {cs : List CV} {us : List Value} (h : RepCs base w σ cs us) (k : Nat) : RepCs base w σ (cs.drop k) (us.drop k) := by
 refine ⟨by rw [List.length_drop, List.length_drop, h.1], fun i c v hc hv => ?_⟩
 rw [List.getElem?_drop] at hc hv
 exact h.2 _ c v hc hv
theorem RepCs.take {cs : List CV} {us : List Value} (h : RepCs base w σ cs us) (k : Nat) : RepCs base w σ (cs.take k) (us.take k) := by
 refine ⟨by rw [List.length_take, List.length_take, h.1], fun i c v hc hv => ?_⟩
 rw [List.getElem?_take] at hc hv
 split at hc
 ·rename_i hi; rw [if_pos hi] at hv; exact h.2 _ c v hc hv
 ·cases hc
theorem RepCs.append {cs cs' : List CV} {us us' : List Value} (h : RepCs base w σ cs us) (h' : RepCs base w σ cs' us') : RepCs base w σ (cs ++ cs') (us ++ us') := by
 refine ⟨by rw [List.length_append, List.length_append, h.1, h'.1], fun i c v hc hv => ?_⟩
 rcases Nat.lt_or_ge i cs.length with hi | hi
 ·rw [List.getElem?_append_left hi] at hc
  rw [List.getElem?_append_left (by rw [← h.1]; exact hi)] at hv
  exact h.2 i c v hc hv
 ·rw [List.getElem?_append_right hi] at hc
  rw [List.getElem?_append_right (by rw [← h.1]; exact hi), ← h.1] at hv
  exact h'.2 _ c v hc hv
theorem RepCs.nil : RepCs base w σ [] [] := ⟨rfl, fun i c v hc => by simp at hc⟩
theorem choose_list {α : Type} {R : Nat → α → Value → Prop} (cs : List α) (h : ∀ (i : Nat) c, cs[i]? = some c → ∃ u, R i c u) :
  ∃ us : List Value, us.length = cs.length ∧ ∀ (i : Nat) c u, cs[i]? = some c → us[i]? = some u → R i c u := by
 induction cs generalizing R with
 | nil => exact ⟨[], rfl, fun i c u hc => by simp at hc⟩
 | cons x cs ih =>
   obtain ⟨u0, hu0⟩ := h 0 x rfl
   obtain ⟨us, hl, hu⟩ := ih (R := fun i => R (i + 1)) (fun i c hc => h (i + 1) c (by simpa using hc))
   refine ⟨u0 :: us, by simp [hl], fun i c u hc hv => ?_⟩
   cases i with
   | zero => simp at hc hv; subst hc; subst hv; exact hu0
   | succ i => exact hu i c u (by simpa using hc) (by simpa using hv)
theorem place_of {H : Nat → Option Content} {av : AV} {cs : List CV} {v : Value} (h : placeOf H av = some cs) (hr : RepA base w σ av v)
  (hH : ∀ s c, H s = some c → ∃ v, σ s = some v ∧ SiteOk base w σ v c) : ∃ ad, v = .pointer (some ad) ∧ (cs = [] ∨ PlaceOk base w σ cs ad) := by
 unfold placeOf at h
 split at h
 ·rename_i s off
  split at h
  ·rename_i t cs' hs
   cases h
   obtain ⟨b, h1, rfl⟩ := hr
   obtain ⟨v', h2, b', vs, rfl, h3, h4, h5, h6⟩ := hH s _ hs
   rw [h1] at h2
   simp only [Option.some.injEq, Value.pointer.injEq, Addr.mk.injEq, and_true] at h2
   subst h2
   refine ⟨_, rfl, .inr ⟨_, h6.drop off, fun j u hu => ?_⟩⟩
   rw [List.getElem?_drop] at hu
   rw [Addr.add_lit, cell_of_row w b _ vs t _ h4]
   simpa using hu
  ·cases h
 ·rename_i fr e
  cases h
  obtain ⟨ad, rfl, hb⟩ := hr
  refine ⟨ad, rfl, ?_⟩
  rcases hb with rfl | ⟨hk, hb⟩
  ·exact .inl rfl
  ·obtain ⟨us, hl, hu⟩ := choose_list e hb
   refine .inr ⟨us, ⟨by simp [hl], fun i c v hc hv => ?_⟩, fun j u hj => ?_⟩
   ·rw [List.getElem?_map] at hc
    obtain ⟨x, hx, rfl⟩ := Option.map_eq_some_iff.1 hc
    exact (hu i x v hx hv).2
   ·have hlt : j < e.length := by rw [← hl]; exact (List.getElem?_eq_some_iff.1 hj).1
    exact (hu j _ u (List.getElem?_eq_getElem hlt) hj).1
 ·rename_i s z j q
  split at h
  ·rename_i e z' n g fr hs
   split at h
   ·rename_i hz
    subst hz
    cases h
    obtain ⟨b, n', c, h1, hj, rfl⟩ := hr
    obtain ⟨v', h2, xs, h3, h4, h5, h6⟩ := hH s _ hs
    rw [h1] at h2
    cases h2
    have hn : n' = n := by
     rcases h3.2 with ⟨h, _⟩ | ⟨g', cap, cur, h, _⟩
     ·cases h
     ·simp only [Value.slice.injEq] at h; exact h.2.1
    subst hn
    refine ⟨_, rfl, .inr ?_⟩
    obtain ⟨us, hl, hu⟩ := choose_list ((g j).drop q) (R := fun i x u => xs[j * z + (q + i)]? = some u ∧ Rep w (K base w σ fr) x u) (fun i x hx => by
     rw [List.getElem?_drop] at hx
     exact h6 j (q + i) x hj hx)
    refine ⟨us, ⟨by simp [hl], fun i c v hc hv => ?_⟩, fun i u hi => ?_⟩
    ·rw [List.getElem?_map] at hc
     obtain ⟨x, hx, rfl⟩ := Option.map_eq_some_iff.1 hc
     exact (hu i x v hx hv).2
    ·have hlt : i < ((g j).drop q).length := by rw [← hl]; exact (List.getElem?_eq_some_iff.1 hi).1
     have h7 := (hu i _ u (List.getElem?_eq_getElem hlt) hi).1
     rw [Addr.add_lit, Nat.add_assoc]
     have hlt2 := (List.getElem?_eq_some_iff.1 h7).1
     rw [h3.1] at hlt2
     rw [h3.cellAt _ hlt2]
     exact h7
   ·cases h
  ·cases h
 ·cases h
def loadV (P : Program) (t : TypeId) (cs : List CV) : Option AV :=
 match P.underlying t, P.info? t with
 | some (.struct _), some i => if (cs.take i.size).length = i.size then some (.t (.agg (cs.take i.size))) else none
 | some (.array _ _), _ => none
 | some _, some _ => match cs with
   | x :: _ => some (.t (.c x))
   | [] => none
 | _, _ => none
theorem run_loadV {t : TypeId} {cs : List CV} {av : AV} {ad : Addr} (h : loadV P t cs = some av) (hp : cs = [] ∨ PlaceOk base w σ cs ad) :
  ∃ v, (loadVar t ad).run P w = .ok v w ∧ RepA base w σ av v := by
 unfold loadV at h
 split at h
 ·rename_i fs i hu hi
  split at h
  ·rename_i hl
   cases h
   obtain ⟨us, hr, hc⟩ : PlaceOk base w σ (cs.take i.size) ad := by
    rcases hp with rfl | ⟨us, hr, hc⟩
    ·exact ⟨[], by simpa using RepCs.nil, fun j u hj => by simp at hj⟩
    ·refine ⟨us.take i.size, hr.take _, fun j u hj => hc j u ?_⟩
     rw [List.getElem?_take] at hj
     split at hj
     ·exact hj
     ·cases hj
   have hsz : us.length = i.size := by rw [← hr.1]; exact hl
   refine ⟨.agg us.toArray, ?_, us, rfl, hr⟩
   have hload := run_loadCells_list (P := P) w ad us hc
   rw [hsz] at hload
   simp [loadVar, isAgg, underlying, hu, sizeOf, typeInfo, hi, hload]
  ·cases h
 ·cases h
 ·rename_i d i hns hna hu hi
  split at h
  ·rename_i x xs
   cases h
   rcases hp with hp | ⟨us, hr, hc⟩
   ·cases hp
   ·obtain ⟨u, us, rfl⟩ : ∃ u us', us = u :: us' := by
     cases us with
     | nil => have := hr.1; simp at this
     | cons u us' => exact ⟨u, us', rfl⟩
    have h0 := hc 0 u rfl
    have hz : ad.add 0 = ad := by simp [Addr.add]
    rw [hz] at h0
    refine ⟨u, ?_, hr.2 0 x u rfl rfl⟩
    have hf : (isAgg t).run P w = .ok false w := by
     simp only [isAgg]
     simp [underlying, hu]
    simp [loadVar, hf, load, Sem.run, h0]
  ·cases h
 ·cases h
end
end Go.Av