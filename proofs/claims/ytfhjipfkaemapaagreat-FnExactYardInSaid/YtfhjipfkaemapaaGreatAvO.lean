/- The whole: a function's text is run (ev), and the machine comes to what is told. -/
import Derived.Test.YtfhjipfkaemapaaGreatAvN
namespace Go.Av
open Go Go.RowKit
set_option linter.unusedVariables false
set_option linter.unusedSimpArgs false
variable {P : Program}
def look (T : List (Nat × AV)) (t : Nat) : AV := match T.lookup t with
 | some av => av
 | none => .any
def mkFS (T : List (Nat × AV)) (H : List (Nat × Content)) : FS := ⟨look T, fun s => H.lookup s⟩
def fitT (T : Nat → AV) : List (Nat × AV) → Option (List Prop)
 | [] => some []
 | (t, av) :: r => match fitAV (T t) av, fitT T r with
   | some l, some l' => some (l ++ l')
   | _, _ => none
def fitH (H : Nat → Option Content) : List (Nat × Content) → Option (List Prop)
 | [] => some []
 | (s, c) :: r => match H s with
   | some k => match fitK k c, fitH H r with
     | some l, some l' => some (l ++ l')
     | _, _ => none
   | none => none
def closed (T : List (Nat × AV)) (H : List (Nat × Content)) : Bool :=
 T.all (fun x => x.2.sites.all fun s => (H.lookup s).isSome) && H.all (fun x => match x.2 with
  | .box _ cs => (cs.flatMap CV.sites).all fun s => (H.lookup s).isSome
  | _ => true)
theorem fitT_at {T : Nat → AV} : ∀ {L : List (Nat × AV)} {l : List Prop}, fitT T L = some l → All l → ∀ t, look L t = .any ∨ ∃ l', fitAV (T t) (look L t) = some l' ∧ All l'
 | [], l, h, ho, t => .inl rfl
 | (t0, av) :: r, l, h, ho, t => by
   simp only [fitT] at h
   split at h
   ·rename_i l1 l2 h1 h2
    cases h
    obtain ⟨ho1, ho2⟩ := All.append.1 ho
    unfold look
    rw [List.lookup_cons]
    by_cases e : t = t0
    ·subst e
     simp only [beq_self_eq_true]
     exact .inr ⟨l1, h1, ho1⟩
    ·have : (t == t0) = false := by simpa using e
     rw [this]
     exact fitT_at h2 ho2 t
   ·cases h
theorem fitH_at {H : Nat → Option Content} : ∀ {L : List (Nat × Content)} {l : List Prop}, fitH H L = some l → All l → ∀ s c, L.lookup s = some c → ∃ k l', H s = some k ∧ fitK k c = some l' ∧ All l'
 | [], l, h, ho, s, c, hc => by simp at hc
 | (s0, c0) :: r, l, h, ho, s, c, hc => by
   simp only [fitH] at h
   split at h
   ·rename_i k hk
    split at h
    ·rename_i l1 l2 h1 h2
     cases h
     obtain ⟨ho1, ho2⟩ := All.append.1 ho
     rw [List.lookup_cons] at hc
     by_cases e : s = s0
     ·subst e
      simp only [beq_self_eq_true, Option.some.injEq] at hc
      subst hc
      exact ⟨k, l1, hk, h1, ho1⟩
     ·have : (s == s0) = false := by simpa using e
      rw [this] at hc
      exact fitH_at h2 ho2 s c hc
    ·cases h
   ·cases h
theorem lookup_mem {α : Type} {L : List (Nat × α)} {s : Nat} {c : α} (h : L.lookup s = some c) : (s, c) ∈ L := by
 induction L with
 | nil => simp at h
 | cons x r ih =>
   obtain ⟨s0, c0⟩ := x
   rw [List.lookup_cons] at h
   split at h
   ·rename_i e
    cases h
    have : s = s0 := by simpa using e
    subst this
    simp
   ·exact List.mem_cons_of_mem _ (ih h)
theorem Rel.fit {w0 : Base} {N : Nat} {S : FS} {σ : Sig} {a : Act} {w : World} (h : Rel w0 N S σ a w) {T : List (Nat × AV)} {H : List (Nat × Content)} {l l' : List Prop} (hT : fitT S.T T = some l) (hH : fitH S.H H = some l') (ho : All l) (ho' : All l') (hc : closed T H = true) :
  ∃ σ', Rel w0 N (mkFS T H) σ' a w := by
 let σ' : Sig := fun s => if (H.lookup s).isSome then σ s else none
 have hev : Evo σ σ' w w := ⟨Nat.le_refl _, fun _ _ _ => rfl, fun b _ ⟨s, v, hs, hv⟩ => by
  have hs : (if (H.lookup s).isSome then σ s else none) = some v := hs
  split at hs
  ·exact ⟨s, v, hs, hv⟩
  ·cases hs⟩
 simp only [closed, Bool.and_eq_true] at hc
 obtain ⟨hc1, hc2⟩ := hc
 have hσ : ∀ s, (H.lookup s).isSome = true → σ' s = σ s := fun s hs => if_pos hs
 refine ⟨σ', h.below, h.size, h.defers, fun t => ?_, fun s c hs => ?_, fun s hs => ?_, fun s s' v v' b hs hs' hv hv' => ?_, hev.prot h.prot⟩
 ·rcases fitT_at hT ho t with e | ⟨l1, h1, h2⟩
  ·show RepA _ _ _ (look T t) _
   rw [e]
   trivial
  ·refine fitAV_ok hev h1 h2 (fun s hs => hσ s ?_) (h.tmps t)
   replace hs : s ∈ (look T t).sites := hs
   unfold look at hs
   split at hs
   ·rename_i av hav
    have := List.all_eq_true.1 hc1 _ (lookup_mem hav)
    exact List.all_eq_true.1 this s hs
   ·simp [AV.sites] at hs
 ·replace hs : H.lookup s = some c := hs
  obtain ⟨k, l1, h1, h2, h3⟩ := fitH_at hH ho' s c hs
  obtain ⟨v, hv, hk⟩ := h.sites s k h1
  refine ⟨v, (hσ s (by rw [hs]; rfl)).trans hv, fitK_ok hev h2 h3 (fun t cs e s' hs' => hσ s' ?_) hk⟩
  have := List.all_eq_true.1 hc2 _ (lookup_mem hs)
  subst e
  exact List.all_eq_true.1 this s' hs'
 ·replace hs : H.lookup s = none := hs
  exact if_neg (by rw [hs]; simp)
 ·have e1 : σ s = some v := by
   have hs : (if (H.lookup s).isSome then σ s else none) = some v := hs
   split at hs
   ·exact hs
   ·cases hs
  have e2 : σ s' = some v' := by
   have hs : (if (H.lookup s').isSome then σ s' else none) = some v' := hs'
   split at hs
   ·exact hs
   ·cases hs
  exact h.inj s s' v v' b e1 e2 hv hv'
def selfC : CV → List Prop
 | .p _ x => [VE x x]
 | .hv _ x => [x = x]
 | _ => []
def selfA : AV → List Prop
 | .t (.c x) => selfC x
 | .t (.agg xs) => xs.flatMap selfC
 | .bptr _ e => e.map fun x => VE x x
 | .bfn g es => (g = g) :: es.flatMap fun e => e.map fun x => VE x x
 | _ => []
def selfK : Content → List Prop
 | .box _ cs => cs.flatMap selfC
 | .row _ _ n g _ => [GE n g n g]
 | .iter s p => [s = s, p = p]
 | .nest e ei n m g => [GEN n m g n m g]
 | .set P kt bt n l => [P = P, n = n, l = l]
def selfS (T : List (Nat × AV)) (H : List (Nat × Content)) : List Prop := T.flatMap (fun x => selfA x.2) ++ H.flatMap fun x => selfK x.2
theorem All.flat {α : Type} {f : α → List Prop} (h : ∀ x, All (f x)) : ∀ l : List α, All (l.flatMap f)
 | [] => trivial
 | x :: l => by rw [List.flatMap_cons]; exact All.append.2 ⟨h x, All.flat h l⟩
theorem mapVE : ∀ e : List V, All (e.map fun x => VE x x)
 | [] => trivial
 | y :: ys => by rw [List.map_cons]; exact All.cons.2 ⟨VE.refl y, mapVE ys⟩
theorem selfC_ok : ∀ c, All (selfC c) := fun c => by cases c <;> first | trivial | exact VE.refl _ | exact rfl
theorem selfS_ok (T : List (Nat × AV)) (H : List (Nat × Content)) : All (selfS T H) := by
 refine All.append.2 ⟨All.flat (fun x => ?_) T, All.flat (fun x => ?_) H⟩
 ·cases x.2 with
  | t y => cases y with
    | c c => exact selfC_ok c
    | agg xs => exact All.flat selfC_ok xs
  | bptr f e => exact mapVE e
  | bfn g es => exact All.cons.2 ⟨rfl, All.flat mapVE es⟩
  | _ => trivial
 ·cases x.2 with
  | box t cs => exact All.flat selfC_ok cs
  | row e z n g f => exact GE.refl n g
  | iter s p => exact ⟨rfl, rfl⟩
  | nest e ei n m g => exact GEN.refl n m g
  | set P kt bt n l => exact ⟨rfl, rfl, rfl⟩
def selfAD : AD → List Prop
 | .c x => [VE x x]
 | .agg xs => xs.map fun x => VE x x
 | .ptr e => e.map fun x => VE x x
 | .fn g es => (g = g) :: es.flatMap fun e => e.map fun x => VE x x
def selfArgs (args : List AD) : List Prop := args.flatMap selfAD
theorem selfArgs_ok (args : List AD) : All (selfArgs args) := All.flat (fun x => by
 cases x with
 | c x => exact VE.refl x
 | agg xs => exact mapVE xs
 | ptr e => exact mapVE e
 | fn g es => exact All.cons.2 ⟨rfl, All.flat mapVE es⟩) args
end Go.Av