/- Contracts of functions, and how a state grows by what an operation makes. -/
import Derived.Test.YtfhjipfkaemapaaGreatAvA
namespace Go.Av
open Go Go.RowKit
set_option linter.unusedVariables false
set_option linter.unusedSimpArgs false
def VE (x y : V) : Prop := ∀ w ok v, Rep w ok x v → Rep w ok y v
theorem VE.refl (x : V) : VE x x := fun _ _ _ h => h
theorem VE.of_eq {x y : V} (h : x = y) : VE x y := h ▸ VE.refl x
def CE (xs ys : List V) : Prop := xs.length = ys.length ∧ ∀ (q : Nat) y, ys[q]? = some y → ∃ x, xs[q]? = some x ∧ VE x y
theorem CE.refl (xs : List V) : CE xs xs := ⟨rfl, fun q y hy => ⟨y, hy, VE.refl y⟩⟩
theorem CE.of_eq {xs ys : List V} (h : xs = ys) : CE xs ys := h ▸ CE.refl xs
def GE (n : Nat) (g : Nat → List V) (n' : Nat) (g' : Nat → List V) : Prop := n = n' ∧ ∀ j, j < n → CE (g j) (g' j)
theorem GE.refl (n : Nat) (g : Nat → List V) : GE n g n g := ⟨rfl, fun _ _ => CE.refl _⟩
theorem GE.of_eq {n n' : Nat} {g g' : Nat → List V} (hn : n = n') (h : ∀ j, j < n → g j = g' j) : GE n g n' g' := ⟨hn, fun j hj => CE.of_eq (h j hj)⟩
theorem VE.row {z n n' : Nat} {g g' : Nat → List V} (h : GE n g n' g') : VE (.row z n g) (.row z n' g') := by
 obtain ⟨rfl, h⟩ := h
 intro w ok v hr
 cases hr with
 | none z g A c h0 => exact .none _ _ _ _ h0
 | row z n g ad c u hn hc hok hz hu hr =>
   refine .row z _ g' ad c u hn hc hok (fun j hj => (h j hj).1 ▸ hz j hj) hu (fun j q x hj hx => ?_)
   obtain ⟨y, hy, hyx⟩ := (h j hj).2 q x hx
   exact hyx w ok _ (hr j q y hj hy)
inductive AD where
 | c (x : V)
 | agg (xs : List V)
 | ptr (e : List V)
 | fn (g : FuncId) (caps : List (List V))
inductive RC where
 | p (x : V)
 | any
 | own (e z n : Nat) (g : Nat → List V)
 | ownN (e ei n : Nat) (m : Nat → Nat) (g : Nat → Nat → List V)
inductive RD where
 | c (x : RC)
 | agg (xs : List RC)
def RD.cells : RD → List RC
 | .c x => [x]
 | .agg xs => xs
def PtrOk (w : World) (e : List V) (v : Value) : Prop :=
 ∃ ad : Addr, v = .pointer (some ad) ∧ (e = [] ∨ (ad.block < w.heap.size ∧ ∀ (q : Nat) x, e[q]? = some x → ∃ u, w.cell? (ad.add q) = some u ∧ Rep w (· < w.heap.size) x u))
def ArgOk (w : World) : AD → Value → Prop
 | .c x, v => Rep w (· < w.heap.size) x v
 | .agg xs, v => ∃ vs : List Value, v = .agg vs.toArray ∧ xs.length = vs.length ∧ ∀ (i : Nat) x u, xs[i]? = some x → vs[i]? = some u → Rep w (· < w.heap.size) x u
 | .ptr e, v => PtrOk w e v
 | .fn g caps, v => ∃ ps : List Value, v = .func (.func g) #[] ps.toArray ∧ caps.length = ps.length ∧ ∀ (i : Nat) e u, caps[i]? = some e → ps[i]? = some u → PtrOk w e u
def ResC (b0 : Nat) (w' : World) (L : Nat → Prop) : RC → Value → Prop
 | .any, v => v.oneCell' = true
 | .p x, v => Rep w' (fun b => b0 ≤ b ∧ b < w'.heap.size ∧ ¬ L b) x v
 | .own e z n g, v => ∃ xs, ORow w' b0 e z v n xs ∧ (∀ u ∈ xs, u.oneCell' = true) ∧ (∀ j, j < n → (g j).length = z) ∧
    ∀ (j q : Nat) x, j < n → (g j)[q]? = some x → ∃ u, xs[j * z + q]? = some u ∧ Rep w' (fun b => b0 ≤ b ∧ b < w'.heap.size ∧ ¬ L b) x u
 | .ownN e ei n m g, v => NestOk b0 w' v e ei n m g
inductive Shape1 : RD → Value → List Value → Prop
 | c (x : RC) (v : Value) : Shape1 (.c x) v [v]
 | agg (xs : List RC) (vs : List Value) (h : xs.length = vs.length) : Shape1 (.agg xs) (.agg vs.toArray) vs
inductive Shapes : List RD → List Value → List Value → Prop
 | nil : Shapes [] [] []
 | cons {r : RD} {rs : List RD} {v : Value} {vs us ws : List Value} (h : Shape1 r v us) (hs : Shapes rs vs ws) : Shapes (r :: rs) (v :: vs) (us ++ ws)
def RC.isOwn : RC → Bool
 | .p _ => false
 | .any => false
 | _ => true
def Owns (rs : List RC) (us : List Value) (b : Nat) : Prop := ∃ (i : Nat) (r : RC) (u : Value), rs[i]? = some r ∧ r.isOwn = true ∧ us[i]? = some u ∧ Own u b
structure ResOk (b0 : Nat) (w' : World) (rds : List RD) (vs us : List Value) : Prop where
 shape : Shapes rds vs (us.map hdr)
 cells : ∀ (i : Nat) r u, (rds.flatMap RD.cells)[i]? = some r → us[i]? = some u → ResC b0 w' (Owns (rds.flatMap RD.cells) us) r u
 inj : ∀ (i i' : Nat) r r' u u' b, (rds.flatMap RD.cells)[i]? = some r → (rds.flatMap RD.cells)[i']? = some r' → r.isOwn = true → r'.isOwn = true →
  us[i]? = some u → us[i']? = some u' → Own u b → Own u' b → i = i'
def one (vs : List Value) : Value := if h : vs.length = 1 then vs[0] else .tuple vs.toArray
def VCalls (P : Program) (f : FuncId) (args : List AD) (rds : List RD) : Prop :=
 ∀ (w : World) (vals : List Value), args.length = vals.length → (∀ (i : Nat) d v, args[i]? = some d → vals[i]? = some v → ArgOk w d v) →
  Calls P f vals.toArray w fun e w' => ∃ vs us, e = .returned (one vs) ∧ Below w.heap.size w w' ∧ ResOk w.heap.size w' rds vs us
structure Eff where
 av : AV
 news : List (Nat × Content)
def upd {α : Type} (f : Nat → α) (d : Nat) (x : α) : Nat → α := fun t => if t = d then x else f t
def FS.put (S : FS) (dst : Option Nat) (av : AV) : FS := match dst with
 | some d => ⟨upd S.T d av, S.H⟩
 | none => S
def FS.add (S : FS) (news : List (Nat × Content)) : FS := ⟨S.T, fun s => match news.lookup s with
 | some c => some c
 | none => S.H s⟩
def FS.app (S : FS) (dst : Option Nat) (E : Eff) : FS := (S.add E.news).put dst E.av
structure Grow (base : Nat) (σ σ' : Sig) (w w' : World) (news : List (Nat × Content)) : Prop where
 below : Below w.heap.size w w'
 ext : ∀ s, news.lookup s = none → σ' s = σ s
 new : ∀ s c, news.lookup s = some c → ∃ v, σ' s = some v ∧ SiteOk base w' σ' v c ∧ ∀ b, Own v b → w.heap.size ≤ b
 inj : ∀ s s' v v' b, news.lookup s ≠ none → news.lookup s' ≠ none → σ' s = some v → σ' s' = some v' → Own v b → Own v' b → s = s'
theorem Grow.none {base : Nat} {σ : Sig} {w w' : World} (h : Below w.heap.size w w') : Grow base σ σ w w' [] :=
 ⟨h, fun _ _ => rfl, fun s c h => by simp at h, fun s s' v v' b h => by simp at h⟩
theorem put_tmps {a : Act} {d : Nat} {v : Value} (t : Nat) (hd : d < a.tmps.size) : (a.put (some d) v).tmps.getD t undef = if t = d then v else a.tmps.getD t undef := by
 simp only [Act.put, Array.getD_eq_getD_getElem?, Array.getElem?_setIfInBounds]
 by_cases h : d = t
 ·subst h
  simp [hd]
 ·rw [if_neg h, if_neg (fun e => h e.symm)]
theorem Rel.put {w0 : Base} {N : Nat} {S : FS} {σ : Sig} {a : Act} {w : World} (h : Rel w0 N S σ a w) {dst : Option Nat} {av : AV} {v : Value}
  (hd : ∀ d, dst = some d → d < N) (hv : RepA w0.base w σ av v) : Rel w0 N (S.put dst av) σ (a.put dst v) w := by
 cases dst with
 | none => exact h
 | some d =>
   refine ⟨h.below, by simpa [Act.put] using h.size, h.defers, fun t => ?_, h.sites, h.dom, h.inj, h.prot⟩
   rw [put_tmps t (by rw [h.size]; exact hd d rfl)]
   simp only [FS.put, upd]
   split
   ·exact hv
   ·exact h.tmps t
theorem Grow.evo {w0 : Base} {N : Nat} {S : FS} {σ σ' : Sig} {a : Act} {w w' : World} {news : List (Nat × Content)} (h : Rel w0 N S σ a w)
  (hg : Grow w0.base σ σ' w w' news) : Evo σ σ' w w' := by
 refine ⟨hg.below.size, fun b hb _ => hg.below.block b hb, fun b hb ⟨s, v, hs, hv⟩ => ?_⟩
 cases hn : news.lookup s with
 | none => rw [hg.ext s hn] at hs; exact ⟨s, v, hs, hv⟩
 | some c =>
   obtain ⟨v', hs', _, hb'⟩ := hg.new s c hn
   rw [hs] at hs'
   cases hs'
   have := hb' b hv
   omega
theorem RepC.known {base : Nat} {w : World} {σ : Sig} {c : CV} {v : Value} (h : RepC base w σ c v) : ∀ s ∈ c.sites, σ s ≠ none := by
 intro s hs
 cases c with
 | h s' => simp only [CV.sites, List.mem_singleton] at hs; subst hs; rw [h.1]; simp
 | hn s' => simp only [CV.sites, List.mem_singleton] at hs; subst hs; obtain ⟨us, h1⟩ := h.1; rw [h1]; simp
 | hv s' x => simp only [CV.sites, List.mem_singleton] at hs; subst hs; rw [h.1]; simp
 | _ => simp [CV.sites] at hs
theorem RepT.known {base : Nat} {w : World} {σ : Sig} {c : TV} {v : Value} (h : RepT base w σ c v) : ∀ s ∈ c.sites, σ s ≠ none := by
 intro s hs
 cases c with
 | c x => exact RepC.known h s hs
 | agg xs =>
   obtain ⟨vs, rfl, hl, hr⟩ := h
   obtain ⟨x, hx, hs⟩ := List.mem_flatMap.1 hs
   obtain ⟨i, hi, rfl⟩ := List.mem_iff_getElem.1 hx
   exact (hr i xs[i] vs[i] (List.getElem?_eq_getElem hi) (List.getElem?_eq_getElem (by omega))).known s hs
theorem RepA.known {base : Nat} {w : World} {σ : Sig} {c : AV} {v : Value} (h : RepA base w σ c v) : ∀ s ∈ c.sites, σ s ≠ none := by
 intro s hs
 cases c with
 | any => simp [AV.sites] at hs
 | t x => exact RepT.known h s hs
 | tup xs =>
   obtain ⟨vs, rfl, hl, hr⟩ := h
   obtain ⟨x, hx, hs⟩ := List.mem_flatMap.1 hs
   obtain ⟨i, hi, rfl⟩ := List.mem_iff_getElem.1 hx
   exact (hr i xs[i] vs[i] (List.getElem?_eq_getElem hi) (List.getElem?_eq_getElem (by omega))).known s hs
 | ptr s' off => obtain ⟨b, h1, h2⟩ := h; simp only [AV.sites, List.mem_singleton] at hs; subst hs; rw [h1]; simp
 | eptr s' z j q => obtain ⟨b, n, c, h1, h2⟩ := h; simp only [AV.sites, List.mem_singleton] at hs; subst hs; rw [h1]; simp
 | bptr fr e => simp [AV.sites] at hs
 | fn g caps =>
   obtain ⟨ps, rfl, hl, hr⟩ := h
   obtain ⟨x, hx, rfl⟩ := List.mem_map.1 hs
   obtain ⟨i, hi, rfl⟩ := List.mem_iff_getElem.1 hx
   obtain ⟨b, h4, _⟩ := hr i caps[i] ps[i] (List.getElem?_eq_getElem hi) (List.getElem?_eq_getElem (by omega))
   rw [h4]; simp
 | bfn g es => simp [AV.sites] at hs
 | nptr s' j => obtain ⟨b, n, c, us, h1, h2⟩ := h; simp only [AV.sites, List.mem_singleton] at hs; subst hs; rw [h1]; simp
 | nhd s' j => obtain ⟨hd, us, h1, h2⟩ := h; simp only [AV.sites, List.mem_singleton] at hs; subst hs; rw [h1]; simp
 | nelp s' j q => obtain ⟨hd, us, b, n, c, h1, h2⟩ := h; simp only [AV.sites, List.mem_singleton] at hs; subst hs; rw [h1]; simp
theorem Rel.grow {w0 : Base} {N : Nat} {S : FS} {σ σ' : Sig} {a : Act} {w w' : World} {news : List (Nat × Content)} (h : Rel w0 N S σ a w)
  (hg : Grow w0.base σ σ' w w' news) (hn : ∀ s, news.lookup s ≠ none → S.H s = none) : Rel w0 N (S.add news) σ' a w' := by
 have hsz := h.based
 have hev := hg.evo h
 have same : ∀ s, σ s ≠ none → σ' s = σ s := fun s hs => hg.ext s (by
  cases hl : news.lookup s with
  | none => rfl
  | some c => exact absurd (h.dom s (hn s (by rw [hl]; simp))) hs)
 refine ⟨h.below.trans (hg.below.mono hsz), h.size, h.defers, fun t => ?_, fun s c hc => ?_, fun s hc => ?_, fun s s' v v' b hs hs' hv hv' => ?_, hev.prot h.prot⟩
 ·exact hev.repA (fun s hs => same s ((h.tmps t).known s hs)) (h.tmps t)
 ·simp only [FS.add] at hc
  cases hl : news.lookup s with
  | some c' =>
    rw [hl] at hc
    cases hc
    obtain ⟨v, h1, h2, _⟩ := hg.new s c hl
    exact ⟨v, h1, h2⟩
  | none =>
    rw [hl] at hc
    obtain ⟨v, h1, h2⟩ := h.sites s c hc
    refine ⟨v, (hg.ext s hl).trans h1, hev.site (fun b hb => hg.below.block b (h2.block hb).2) (fun t cs e s' hs' => same s' ?_) h2⟩
    subst e
    obtain ⟨b, vs, _, _, _, _, hcs⟩ := h2
    obtain ⟨x, hx, hs'⟩ := List.mem_flatMap.1 hs'
    obtain ⟨i, hi, rfl⟩ := List.mem_iff_getElem.1 hx
    have hi' : i < vs.toList.length := by have := hcs.1; omega
    exact (hcs.2 i cs[i] vs.toList[i] (List.getElem?_eq_getElem hi) (List.getElem?_eq_getElem hi')).known s' hs'
 ·simp only [FS.add] at hc
  cases hl : news.lookup s with
  | some c' => rw [hl] at hc; cases hc
  | none => rw [hl] at hc; exact (hg.ext s hl).trans (h.dom s hc)
 ·cases hl : news.lookup s with
  | none =>
    rw [hg.ext s hl] at hs
    cases hl' : news.lookup s' with
    | none => rw [hg.ext s' hl'] at hs'; exact h.inj s s' v v' b hs hs' hv hv'
    | some c' =>
      obtain ⟨u, hu, _, hb⟩ := hg.new s' c' hl'
      rw [hs'] at hu
      cases hu
      have := (h.live ⟨s, v, hs, hv⟩).2
      have := hb b hv'
      omega
  | some c =>
    obtain ⟨u, hu, _, hb⟩ := hg.new s c hl
    rw [hs] at hu
    cases hu
    cases hl' : news.lookup s' with
    | none =>
      rw [hg.ext s' hl'] at hs'
      have := (h.live ⟨s', v', hs', hv'⟩).2
      have := hb b hv
      omega
    | some c' => exact hg.inj s s' v v' b (by rw [hl]; simp) (by rw [hl']; simp) hs hs' hv hv'
end Go.Av