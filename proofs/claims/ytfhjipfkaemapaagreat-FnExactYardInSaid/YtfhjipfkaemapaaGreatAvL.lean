/- Regions in the order of the text. -/
import Derived.Test.YtfhjipfkaemapaaGreatAvNs
import Derived.Lib.OthersKept
import Derived.Laws.RangeAny
namespace Go.Av
open Go Go.RowKit
set_option linter.unusedVariables false
set_option linter.unusedSimpArgs false
def pickV (out : List (Nat ⊕ Value)) (vs : List Value) : List Value := out.map fun
 | .inl i => vs.getD i undef
 | .inr v => v
structure PCon (P : Program) where
 f : FuncId
 n : Nat
 out : List (Nat ⊕ Value)
 ok : ∀ vs : List Value, vs.length = n → (∀ u ∈ vs, u.oneCell' = true) → VCalls P f [.agg (vs.map .sc)] [.agg ((pickV out vs).map fun v => .p (.sc v))]
 go : Callable P f
structure MCon (P : Program) where
 f : FuncId
 e : TypeId
 cs : List Value
 cs' : List Value
 he : e < MK
 one : ∀ u ∈ cs', u.oneCell' = true
 extra : List AD
 ok : ∀ (w : World) (base : Nat) (v : Value) (us : List Value), base ≤ w.heap.size → w.ownsRow base e 1 v cs.length cs →
  (∀ w1, w.grownBy w1 v.ownBlock → extra.length = us.length ∧ ∀ (i : Nat) d u, extra[i]? = some d → us[i]? = some u → ArgOk w1 d u) → Calls P f (v :: us).toArray w fun ex w' => ∃ v', ex = .returned v' ∧ w'.ownsRow base e 1 v' cs'.length cs' ∧
  w.grownBy w' v.ownBlock ∧ ∀ b, v'.ownBlock = some b → v.ownBlock = some b ∨ w.heap.size ≤ b
 go : Callable P f
def scG (cs : List Value) (j : Nat) : List V := [.sc (cs.getD j undef)]
inductive Orc (P : Program) where
 | b (v : Bool)
 | dec (d : Nat) (v : Bool)
 | call (C : Con P)
 | nil (t s e z : Nat)
 | freeze (s : Nat)
 | cast (t : Nat) (y : V)
 | row (s n : Nat) (g : Nat → List V)
 | op (d : Nat)
 | cst (d : Nat) (y : V)
 | rowE (d n : Nat) (g : Nat → List V)
 | aft (d : Nat)
 | reg (id : Nat)
 | fin
 | nilT (t i s e z : Nat)
 | nilB (b i s e z : Nat)
 | flat (s : Nat)
 | pass (C : PCon P)
 | callM (C : MCon P)
 | callW (C : WCon P) (m : List (Nat × Nat))
 | callI (C : WCon P)
 | callQ (C : QCon P)
 | exq (x : List (Nat × Nat))
 | callN (C : NCon P)
 | toN (s ei : Nat)
 | rowN (s n : Nat) (m : Nat → Nat) (g : Nat → Nat → List V)
 | anyR (m : Nat) (T : List (Nat × AV)) (H : List (Nat × Content))
def constAV : Value → AV
 | .agg cs => if cs.toList.all Value.oneCell' then .t (.agg (cs.toList.map fun v => .p true (.sc v))) else .any
 | v => if v.oneCell' then scv v else .any
theorem constAV_ok {base : Nat} {w : World} {σ : Sig} (v : Value) : RepA base w σ (constAV v) v := by
 unfold constAV
 split
 ·rename_i cs
  split
  ·rename_i h1
   refine ⟨cs.toList, by simp, by simp, fun i c v hc hv => ?_⟩
   rw [List.getElem?_map, hv] at hc
   cases hc
   exact .sc v (List.all_eq_true.1 h1 v (List.mem_of_getElem? hv))
  ·trivial
 ·split
  ·rename_i h1; exact rep_scv h1
  ·trivial
def unC (H : Nat → Option Content) : CV → CV
 | .hv s _ => match H s with
   | some (.row _ _ _ _ _) => .h s
   | some (.nest _ _ _ _ _) => .hn s
   | _ => .any
 | c => c
def unA (H : Nat → Option Content) : AV → AV
 | .t (.c (.hv s x)) => match H s with
   | some (.row e z n g fr) => .t (.c (unC H (.hv s x)))
   | some (.nest e ei n m g) => .t (.c (unC H (.hv s x)))
   | _ => match x with
     | .pointer (some ⟨_, 0, none⟩) => .ptr s 0
     | _ => .t (.c (unC H (.hv s x)))
 | .t (.c c) => .t (.c (unC H c))
 | .t (.agg xs) => .t (.agg (xs.map (unC H)))
 | av => av
theorem unC_ok {base : Nat} {w : World} {σ : Sig} {H : Nat → Option Content} (hH : ∀ s c, H s = some c → ∃ v, σ s = some v ∧ SiteOk base w σ v c) {c : CV} {v : Value} (h : RepC base w σ c v) : RepC base w σ (unC H c) v := by
 unfold unC
 split
 ·rename_i s x
  split
  ·rename_i hs
   obtain ⟨u, hu, xs, h1, _⟩ := hH s _ hs
   rw [h.1] at hu
   cases hu
   have h2 : x.oneCell' = true := by rcases h1.2 with ⟨rfl, _⟩ | ⟨_, _, _, rfl, _⟩ <;> rfl
   have h3 := h.2.1
   rw [hdr_one h2] at h3
   subst h3
   exact ⟨h.1, h2⟩
  ·rename_i hs
   obtain ⟨u, hu, hd, us, h1, _⟩ := hH s _ hs
   rw [h.1] at hu
   cases hu
   subst h1
   have h3 : v = hd := h.2.1
   subst h3
   exact ⟨⟨us, h.1⟩, h.2.2⟩
  ·exact h.2.2
 ·exact h
theorem unA_ok {base : Nat} {w : World} {σ : Sig} {H : Nat → Option Content} (hH : ∀ s c, H s = some c → ∃ v, σ s = some v ∧ SiteOk base w σ v c) {c : AV} {v : Value} (h : RepA base w σ c v) : RepA base w σ (unA H c) v := by
 unfold unA
 split
 ·rename_i s x
  split
  ·exact unC_ok hH h
  ·exact unC_ok hH h
  ·split
   ·rename_i b
    exact ⟨b, h.1, h.2.1⟩
   ·exact unC_ok hH h
 ·exact unC_ok hH h
 ·obtain ⟨vs, rfl, hl, h⟩ := h
  refine ⟨vs, rfl, by rw [List.length_map]; exact hl, fun i c u hc hu => ?_⟩
  rw [List.getElem?_map] at hc
  obtain ⟨c', hc', rfl⟩ := Option.map_eq_some_iff.1 hc
  exact unC_ok hH (h i c' u hc' hu)
 ·exact h
def FS.ev (S : FS) : Operand → AV
 | .tmp t => unA S.H (S.T t)
 | .const v => constAV v
 | .func f => .fn f []
 | .global _ => .any
theorem Rel.ev {w0 : Base} {N : Nat} {S : FS} {σ : Sig} {a : Act} {w : World} (h : Rel w0 N S σ a w) (x : Operand) : RepA w0.base w σ (S.ev x) (a.eval x) := by
 cases x with
 | tmp t => exact unA_ok h.sites (h.tmps t)
 | global g => trivial
 | func f => exact ⟨[], rfl, rfl, fun i c u hc => by simp at hc⟩
 | const v => exact constAV_ok v
variable {P : Program}
def pre (S : FS) : List (Orc P) → Option (List Prop × List (Orc P) × FS)
 | .nil t s e z :: r => match S.nilrow t s e z with
   | some S' => pre S' r
   | none => none
 | .freeze s :: r => match S.freeze s with
   | some S' => pre S' r
   | none => none
 | .cast t y :: r => match S.T t with
   | .t (.c (.p fr x)) => match pre ⟨upd S.T t (.t (.c (.p fr y))), S.H⟩ r with
     | some (obs, r', S') => some (VE x y :: obs, r', S')
     | none => none
   | _ => none
 | .row s n g :: r => match S.H s with
   | some (.row e z n' g' fr) => match pre ⟨S.T, upd S.H s (some (.row e z n g fr))⟩ r with
     | some (obs, r', S') => some (GE n' g' n g :: obs, r', S')
     | none => none
   | _ => none
 | .nilT t i s e z :: r => match S.nilT t i s e z with
   | some S' => pre S' r
   | none => none
 | .nilB b i s e z :: r => match S.nilB b i s e z with
   | some S' => pre S' r
   | none => none
 | .flat s :: r => match S.H s with
   | some (.row e z n g fr) => match pre ⟨S.T, upd S.H s (some (.row e z n g true))⟩ r with
     | some (obs, r', S') => some (SC n g :: obs, r', S')
     | none => none
   | _ => none
 | .toN s ei :: r => match S.toN s ei with
   | some (p, S') => match pre S' r with
     | some (obs, r', S'') => some (p :: obs, r', S'')
     | none => none
   | none => none
 | .rowN s n m g :: r => match S.H s with
   | some (.nest e ei n' m' g') => match pre ⟨S.T, upd S.H s (some (.nest e ei n m g))⟩ r with
     | some (obs, r', S') => some (GEN n' m' g' n m g :: obs, r', S')
     | none => none
   | _ => none
 | l => some ([], l, S)
theorem pre_ok {w0 : Base} {N : Nat} : ∀ {orc orc' : List (Orc P)} {S S' : FS} {σ : Sig} {a : Act} {w : World} {obs : List Prop}, pre S orc = some (obs, orc', S') → All obs → Rel w0 N S σ a w → ∃ σ', Rel w0 N S' σ' a w := by
 intro orc
 induction orc with
 | nil => intro orc' S S' σ a w obs h ho hr; simp only [pre, Option.some.injEq, Prod.mk.injEq] at h; obtain ⟨_, _, rfl⟩ := h; exact ⟨σ, hr⟩
 | cons x r ih =>
   intro orc' S S' σ a w obs h ho hr
   cases x with
   | nil t s e z =>
     simp only [pre] at h
     split at h
     ·rename_i S1 h1
      obtain ⟨σ1, hr1⟩ := hr.nilrow h1
      exact ih h ho hr1
     ·cases h
   | freeze s =>
     simp only [pre] at h
     split at h
     ·rename_i S1 h1
      obtain ⟨σ1, hr1⟩ := hr.freeze h1
      exact ih h ho hr1
     ·cases h
   | cast t y =>
     simp only [pre] at h
     split at h
     ·rename_i fr x hx
      split at h
      ·rename_i obs' r' S1 h1
       simp only [Option.some.injEq, Prod.mk.injEq] at h
       obtain ⟨rfl, rfl, rfl⟩ := h
       obtain ⟨ho1, ho2⟩ := All.cons.1 ho
       refine ih h1 ho2 (σ := σ) ⟨hr.below, hr.size, hr.defers, fun t' => ?_, hr.sites, hr.dom, hr.inj, hr.prot⟩
       simp only [upd]
       split
       ·rename_i e
        subst e
        have := hr.tmps t'
        rw [hx] at this
        exact ho1 _ _ _ this
       ·exact hr.tmps t'
      ·cases h
     ·cases h
   | row s n g =>
     simp only [pre] at h
     split at h
     ·rename_i e z n' g' fr hs
      split at h
      ·rename_i obs' r' S1 h1
       simp only [Option.some.injEq, Prod.mk.injEq] at h
       obtain ⟨rfl, rfl, rfl⟩ := h
       obtain ⟨⟨rfl, hg⟩, ho2⟩ := All.cons.1 ho
       obtain ⟨v, hv, hsite⟩ := hr.sites s _ hs
       refine ih h1 ho2 (σ := σ) (hr.write hv (Below.refl _ _) (fun _ _ _ => rfl) (fun _ => ?_))
       obtain ⟨xs, k1, k2, k3, k4⟩ := hsite
       refine ⟨xs, k1, k2, fun j hj => (hg j hj).1 ▸ k3 j hj, fun j q x hj hx => ?_⟩
       obtain ⟨y, hy, hyx⟩ := (hg j hj).2 q x hx
       obtain ⟨u, hu, hru⟩ := k4 j q y hj hy
       exact ⟨u, hu, hyx _ _ _ hru⟩
      ·cases h
     ·cases h
   | nilT t i s e z =>
     simp only [pre] at h
     split at h
     ·rename_i S1 h1
      obtain ⟨σ1, hr1⟩ := hr.nilT h1
      exact ih h ho hr1
     ·cases h
   | nilB b i s e z =>
     simp only [pre] at h
     split at h
     ·rename_i S1 h1
      obtain ⟨σ1, hr1⟩ := hr.nilB h1
      exact ih h ho hr1
     ·cases h
   | flat s =>
     simp only [pre] at h
     split at h
     ·rename_i e z n g fr hs
      split at h
      ·rename_i obs' r' S1 h1
       simp only [Option.some.injEq, Prod.mk.injEq] at h
       obtain ⟨rfl, rfl, rfl⟩ := h
       obtain ⟨hsc, ho2⟩ := All.cons.1 ho
       obtain ⟨v, hv, hsite⟩ := hr.sites s _ hs
       refine ih h1 ho2 (σ := σ) (hr.write hv (Below.refl _ _) (fun _ _ _ => rfl) (fun _ => ?_))
       obtain ⟨xs, k1, k2, k3, k4⟩ := hsite
       refine ⟨xs, k1, k2, k3, fun j q x hj hx => ?_⟩
       obtain ⟨u, hu, hru⟩ := k4 j q x hj hx
       refine ⟨u, hu, ?_⟩
       have hx1 := hsc j hj x (List.mem_of_getElem? hx)
       cases x with
       | sc v => cases hru with | sc v h1 => exact .sc _ h1
       | _ => cases hx1
      ·cases h
     ·cases h
   | toN s ei =>
     simp only [pre] at h
     split at h
     ·rename_i p S1 h1
      split at h
      ·rename_i obs' r' S2 h2
       simp only [Option.some.injEq, Prod.mk.injEq] at h
       obtain ⟨rfl, rfl, rfl⟩ := h
       obtain ⟨ho1, ho2⟩ := All.cons.1 ho
       obtain ⟨σ1, hr1⟩ := hr.toN h1 ho1
       exact ih h2 ho2 hr1
      ·cases h
     ·cases h
   | rowN s n m g =>
     simp only [pre] at h
     split at h
     ·rename_i e ei n' m' g' hs
      split at h
      ·rename_i obs' r' S1 h1
       simp only [Option.some.injEq, Prod.mk.injEq] at h
       obtain ⟨rfl, rfl, rfl⟩ := h
       obtain ⟨hg, ho2⟩ := All.cons.1 ho
       obtain ⟨v, hv, hsite⟩ := hr.sites s _ hs
       exact ih h1 ho2 (σ := σ) (hr.write hv (Below.refl _ _) (fun _ _ _ => rfl) (fun _ => NestOk.re hsite hg))
      ·cases h
     ·cases h
   | exq x => simp only [pre, Option.some.injEq, Prod.mk.injEq] at h; obtain ⟨_, _, rfl⟩ := h; exact ⟨σ, hr⟩
   | callQ C => simp only [pre, Option.some.injEq, Prod.mk.injEq] at h; obtain ⟨_, _, rfl⟩ := h; exact ⟨σ, hr⟩
   | callN C => simp only [pre, Option.some.injEq, Prod.mk.injEq] at h; obtain ⟨_, _, rfl⟩ := h; exact ⟨σ, hr⟩
   | callI C => simp only [pre, Option.some.injEq, Prod.mk.injEq] at h; obtain ⟨_, _, rfl⟩ := h; exact ⟨σ, hr⟩
   | b v => simp only [pre, Option.some.injEq, Prod.mk.injEq] at h; obtain ⟨_, _, rfl⟩ := h; exact ⟨σ, hr⟩
   | dec d v => simp only [pre, Option.some.injEq, Prod.mk.injEq] at h; obtain ⟨_, _, rfl⟩ := h; exact ⟨σ, hr⟩
   | call C => simp only [pre, Option.some.injEq, Prod.mk.injEq] at h; obtain ⟨_, _, rfl⟩ := h; exact ⟨σ, hr⟩
   | cst d y => simp only [pre, Option.some.injEq, Prod.mk.injEq] at h; obtain ⟨_, _, rfl⟩ := h; exact ⟨σ, hr⟩
   | rowE d n g => simp only [pre, Option.some.injEq, Prod.mk.injEq] at h; obtain ⟨_, _, rfl⟩ := h; exact ⟨σ, hr⟩
   | aft d => simp only [pre, Option.some.injEq, Prod.mk.injEq] at h; obtain ⟨_, _, rfl⟩ := h; exact ⟨σ, hr⟩
   | op d => simp only [pre, Option.some.injEq, Prod.mk.injEq] at h; obtain ⟨_, _, rfl⟩ := h; exact ⟨σ, hr⟩
   | reg d => simp only [pre, Option.some.injEq, Prod.mk.injEq] at h; obtain ⟨_, _, rfl⟩ := h; exact ⟨σ, hr⟩
   | fin => simp only [pre, Option.some.injEq, Prod.mk.injEq] at h; obtain ⟨_, _, rfl⟩ := h; exact ⟨σ, hr⟩
   | anyR m T H => simp only [pre, Option.some.injEq, Prod.mk.injEq] at h; obtain ⟨_, _, rfl⟩ := h; exact ⟨σ, hr⟩
   | callM C => simp only [pre, Option.some.injEq, Prod.mk.injEq] at h; obtain ⟨_, _, rfl⟩ := h; exact ⟨σ, hr⟩
   | callW C m => simp only [pre, Option.some.injEq, Prod.mk.injEq] at h; obtain ⟨_, _, rfl⟩ := h; exact ⟨σ, hr⟩
   | pass C => simp only [pre, Option.some.injEq, Prod.mk.injEq] at h; obtain ⟨_, _, rfl⟩ := h; exact ⟨σ, hr⟩
def wantedS (ops : Array Oper) (o : Oper) (T : Nat → AV) : Option Bool := match o.guard with
 | none => some true
 | some (j, want) => match (ops[j]?).bind (·.dst) with
   | some t => match T t with
     | .tup _ => some false
     | av => match scOf av with
       | some (.bool true) => some want
       | some (.bool false) => some (!want)
       | _ => none
   | none => none
theorem wantedS_ok {base : Nat} {w : World} {σ : Sig} {ops : Array Oper} {o : Oper} {T : Nat → AV} {a : Act} {b : Bool} (h : wantedS ops o T = some b) (hr : ∀ t, RepA base w σ (T t) (a.tmps.getD t undef)) :
  Region.wanted o (yielded ops a.tmps) = b := by
 unfold wantedS at h
 unfold Region.wanted
 split at h
 ·rename_i hg
  cases h
  rw [hg]
 ·rename_i j want hg
  rw [hg]
  simp only
  split at h
  ·rename_i t ht
   have key : ∀ v : Bool, scOf (T t) = some (.bool v) → yielded ops a.tmps j = some v := fun v hv => by
    have := (scOf_rep hv (hr t)).1
    unfold yielded
    rw [ht]
    simp only [Option.bind_some]
    rw [Array.getD_eq_getD_getElem?] at this
    cases hx : a.tmps[t]? with
    | none => rw [hx] at this; cases this
    | some u => rw [hx] at this; simp only [Option.getD_some] at this; subst this; rfl
   split at h
   ·rename_i ts htt
    cases h
    have := hr t
    rw [htt] at this
    obtain ⟨vs, hvs, _⟩ := this
    have hy : yielded ops a.tmps j = none := by
     unfold yielded
     rw [ht]
     simp only [Option.bind_some]
     rw [Array.getD_eq_getD_getElem?] at hvs
     cases hx : a.tmps[t]? with
     | none => rfl
     | some u => rw [hx] at hvs; simp only [Option.getD_some] at hvs; subst hvs; rfl
    rw [hy]
    rfl
   ·split at h
    ·rename_i hv
     cases h
     rw [key _ hv]
     cases b <;> rfl
    ·rename_i hv
     cases h
     rw [key _ hv]
     cases want <;> rfl
    ·cases h
  ·cases h
def dropN (S : FS) (d : Nat) : Nat → FS
 | 0 => S
 | k + 1 => (dropN S d k).drop (siteOf d k)
theorem dropN_ok {w0 : Base} {N : Nat} {S : FS} {σ : Sig} {a : Act} {w : World} (h : Rel w0 N S σ a w) (d : Nat) : ∀ k, ∃ σ', Rel w0 N (dropN S d k) σ' a w ∧ ∀ i, i < k → σ' (siteOf d i) = none
 | 0 => ⟨σ, h, fun i hi => by omega⟩
 | k + 1 => by
   obtain ⟨σ1, h1, h2⟩ := dropN_ok h d k
   obtain ⟨σ2, h3, h4, h5⟩ := h1.drop (siteOf d k)
   refine ⟨σ2, h3, fun i hi => ?_⟩
   by_cases e : i = k
   ·subst e; exact h4
   ·rw [h5 _ (by unfold siteOf; omega)]; exact h2 i (by omega)
def dstOk (N : Nat) : Option Nat → Bool
 | none => true
 | some d => decide (d < N)
inductive OpK where
 | store (t : TypeId) (a x : Operand)
 | append (t : TypeId) (x y : Operand)
 | call (f : Operand) (args : List Operand)
 | next (it : Operand)
 | upd (t : TypeId) (m x v : Operand)
 | other
def kindOf : Op → OpK
 | .store t a x => .store t a x
 | .call c => match c.callee with
   | .builtin .append => match c.args.toList, c.argTypes.toList with
     | [x, y], [t, t'] => if t = t' then .append t x y else .other
     | _, _ => .other
   | .value f => .call f c.args.toList
   | _ => .other
 | .next it true => .next it
 | .mapUpdate t m x v => .upd t m x v
 | _ => .other
def funOf : AV → Option (FuncId × List AV)
 | .fn g caps => some (g, caps.map fun c => .ptr c.1 c.2)
 | .bfn g es => some (g, es.map (.bptr false))
 | _ => none
theorem funOf_ok {base : Nat} {w : World} {σ : Sig} {av : AV} {g : FuncId} {cs : List AV} {v : Value} (h : funOf av = some (g, cs)) (hr : RepA base w σ av v) :
  ∃ ps : List Value, v = .func (.func g) #[] ps.toArray ∧ ps.length = cs.length ∧ ∀ (i : Nat) c u, cs[i]? = some c → ps[i]? = some u → RepA base w σ c u := by
 unfold funOf at h
 split at h
 ·cases h
  obtain ⟨ps, h1, h2, h3⟩ := hr
  refine ⟨ps, h1, by simp [h2], fun i c u hc hu => ?_⟩
  rw [List.getElem?_map] at hc
  obtain ⟨c', hc', rfl⟩ := Option.map_eq_some_iff.1 hc
  exact h3 i c' u hc' hu
 ·cases h
  obtain ⟨ps, h1, h2, h3⟩ := hr
  refine ⟨ps, h1, by simp [h2], fun i c u hc hu => ?_⟩
  rw [List.getElem?_map] at hc
  obtain ⟨c', hc', rfl⟩ := Option.map_eq_some_iff.1 hc
  exact h3 i c' u hc' hu
 ·cases h
def callStep (S1 : FS) (C : Con P) (d : Nat) (f : Operand) (args : List Operand) : Option (List Prop × FS) :=
 match funOf (S1.ev f) with
 | some (g, cs) => match fitAs S1.H (args.map S1.ev ++ cs) C.args with
    | some obs => some ((C.f = g) :: obs, S1.app (some d) (resEff d C.res))
    | none => none
 | none => none
def pickC : List (Nat ⊕ Value) → List CV → Option (List CV)
 | [], _ => some []
 | .inl i :: r, cs => match cs[i]?, pickC r cs with
   | some c, some l => some (c :: l)
   | _, _ => none
 | .inr v :: r, cs => match v.oneCell', pickC r cs with
   | true, some l => some (.p true (.sc v) :: l)
   | _, _ => none
def passStep (S : FS) (C : PCon P) (d : Nat) (f : Operand) (args : List Operand) : Option (List Prop × FS) :=
 match S.ev f, args with
 | .fn g [], [x] => match S.ev x with
   | .t (.agg cs) => if cs.length = C.n then match pickC C.out cs with
      | some cs' => some ([C.f = g], S.app (some d) ⟨.t (.agg cs'), []⟩)
      | none => none
     else none
   | _ => none
 | _, _ => none
def moveStep (S : FS) (C : MCon P) (d : Nat) (f : Operand) (args : List Operand) : Option (List Prop × FS) :=
 match S.ev f, args with
 | .fn g [], x :: xs => match S.ev x with
   | .t (.c (.h s)) => match S.H s with
     | some (.row e 1 n h _) => match fitAs (fun s' => if s' = s then none else S.H s') (xs.map S.ev) C.extra with
       | some obs => some ((C.f = g) :: (e = C.e) :: GE n h C.cs.length (scG C.cs) :: obs, (S.sub s .any (some (.row C.e 1 C.cs'.length (scG C.cs') true))).put (some d) (.t (.c (.h s))))
       | none => none
     | _ => none
   | _ => none
 | _, _ => none
def otherStep (P : Program) (o : Oper) (S1 : FS) : Option (List Prop × FS) :=
 match evOp P o S1.ev S1.H with
 | some (obs, ⟨av, []⟩) => some (obs, S1.app o.dst ⟨av, []⟩)
 | some (obs, ⟨av, [(s, c)]⟩) => match o.dst with
   | some d => if s = siteOf d 0 then some (obs, S1.app o.dst ⟨av, [(s, c)]⟩) else none
   | none => none
 | _ => none
def qOp (S2 : FS) (C : QCon P) (f : Operand) (args : List Operand) (dst : Option Nat) : Option (List Prop × FS) :=
 match qStep S2.ev S2 C f args (dst.getD 999999) with
 | some (obs, s, c, E) => if (S2.H s).isSome = true then some (obs, ((S2.setH s c).add E.news).put dst E.av) else none
 | none => none
def opStep (P : Program) (o : Oper) (S : FS) (orc : List (Orc P)) : Option (List Prop × List (Orc P) × FS) :=
 match kindOf o.op with
 | .store t x y => match o.dst, cellsOf (S.ev y) with
   | none, some xs => match evStore P t (S.ev x) xs S with
     | some S' => some ([], orc, S')
     | none => match nStore P t (S.ev x) xs S with
       | some (obs, S') => some (obs, orc, S')
       | none => none
   | _, _ => none
 | .append t x y => match evAppend P t (S.ev x) (S.ev y) S with
   | some (obs, sid, S') => some (obs, orc, S'.put o.dst (.t (.c (.h sid))))
   | none => match nAppend P t (S.ev x) (S.ev y) S with
     | some (obs, sid, S') => some (obs, orc, S'.put o.dst (.t (.c (.hn sid))))
     | none => none
 | .call f args => match orc, o.dst with
   | .call C :: orc', some d => match callStep (dropN S d (C.res.flatMap RD.cells).length) C d f args with
     | some (obs, S') => some (obs, orc', S')
     | none => none
   | .callM C :: orc', some d => match moveStep S C d f args with
     | some (obs, S') => some (obs, orc', S')
     | none => none
   | .pass C :: orc', some d => match passStep S C d f args with
     | some (obs, S') => some (obs, orc', S')
     | none => none
   | .callW C m :: orc', some d => match wStep S.ev S C m f args (some d) with
     | some (obs, S') => some (obs, orc', S')
     | none => none
   | .callI C :: orc', some d => match iStep S S.ev C f args (some d) with
     | some (obs, S') => some (obs, orc', S')
     | none => none
   | .callQ C :: orc', _ => match qOp (dropN S (o.dst.getD 999999) (C.res.flatMap RD.cells).length) C f args o.dst with
     | some (obs, S') => some (obs, orc', S')
     | none => none
   | .callN C :: orc', some d => match nStep (dropN S d 1).ev C f args d with
     | some (obs, E) => some (obs, orc', (dropN S d 1).app (some d) E)
     | none => none
   | _, _ => none
 | .upd t m x v => match S.ev m, scOf (S.ev x), scOf (S.ev v), P.underlying t, o.dst with
   | .t (.c (.h s)), some (.int .i64 y), some (.bool true), some (.map kt bt), none => match S.H s, P.underlying kt, P.underlying bt with
     | some (.set P' kt' bt' n l), some (.int .i64), some .bool => if kt' = kt ∧ bt' = bt then some ([P' = P, n < maxLen, (Lit.int .i64 y).wf = true], orc, ⟨S.T, upd S.H s (some (.set P kt bt (n + 1) (y :: l)))⟩) else none
     | _, _, _ => none
   | _, _, _, _, _ => none
 | .next it => match S.ev it, orc, o.dst with
   | .ptr s 0, .dec d v :: orc', some d' => match S.H s with
     | some (.iter str pos) => if d = d' then match v with
        | true => some ([pos < str.size], orc', FS.put ⟨S.T, upd S.H s (some (.iter str (pos + (Utf8.decode str pos).2)))⟩ o.dst (.tup [.c (.p true (.sc (.bool true))), .c (.p true (.sc (.int .i64 (pos : Int)))), .c (.p true (.sc (.int .i32 (Utf8.decode str pos).1)))]))
        | false => some ([¬ pos < str.size], orc', S.put o.dst (.tup [.c (.p true (.sc (.bool false)))]))
       else none
     | _ => none
   | _, _, _ => none
 | .other => match otherStep P o (match o.dst with | some d => dropN S d 1 | none => S) with
   | some (obs, S') => some (obs, orc, S')
   | none => match nOther P o S.H S.ev with
     | some (obs, av) => some (obs, orc, S.app o.dst ⟨av, []⟩)
     | none => match nLit P o (match o.dst with | some d => dropN S d 1 | none => S) (match o.dst with | some d => dropN S d 1 | none => S).ev with
       | some (obs, S') => some (obs, orc, S')
       | none => none
theorem Rel.app {w0 : Base} {N : Nat} {S : FS} {σ σ' : Sig} {a : Act} {w w' : World} {E : Eff} {dst : Option Nat} {v : Value} (h : Rel w0 N S σ a w) (hg : Grow w0.base σ σ' w w' E.news)
  (hn : ∀ s, E.news.lookup s ≠ none → S.H s = none) (hd : ∀ d, dst = some d → d < N) (hv : RepA w0.base w' σ' E.av v) : Rel w0 N (S.app dst E) σ' (a.put dst v) w' :=
 (h.grow hg hn).put hd hv
theorem Rel.none_of {w0 : Base} {N : Nat} {S : FS} {σ : Sig} {a : Act} {w : World} (h : Rel w0 N S σ a w) {s : Nat} (hs : σ s = none) : S.H s = none := by
 cases hH : S.H s with
 | none => rfl
 | some c =>
   obtain ⟨v, hv, _⟩ := h.sites s c hH
   rw [hs] at hv
   cases hv
theorem kindOf_store {op : Op} {t : TypeId} {x y : Operand} (h : kindOf op = .store t x y) : op = .store t x y := by
 unfold kindOf at h
 split at h
 ·cases h; rfl
 ·split at h
  ·split at h
   ·split at h <;> cases h
   ·cases h
  ·cases h
  ·cases h
 ·cases h
 ·cases h
 ·cases h
theorem kindOf_append {op : Op} {t : TypeId} {x y : Operand} (h : kindOf op = .append t x y) : op = .call { callee := .builtin .append, args := #[x, y], argTypes := #[t, t] } := by
 unfold kindOf at h
 split at h
 ·cases h
 ·rename_i c
  obtain ⟨callee, args, ts⟩ := c
  simp only at h
  split at h
  ·split at h
   ·rename_i x' y' t1 t2 ha ht
    split at h
    ·rename_i e
     subst e
     cases h
     have ha' : args = #[x, y] := by apply Array.ext'; simpa using ha
     have ht' : ts = #[t, t] := by apply Array.ext'; simpa using ht
     rw [ha', ht']
    ·cases h
   ·cases h
  ·cases h
  ·cases h
 ·cases h
 ·cases h
 ·cases h
theorem kindOf_call {op : Op} {f : Operand} {args : List Operand} (h : kindOf op = .call f args) : ∃ ts, op = .call { callee := .value f, args := args.toArray, argTypes := ts } := by
 unfold kindOf at h
 split at h
 ·cases h
 ·rename_i c
  obtain ⟨callee, args, ts⟩ := c
  simp only at h
  split at h
  ·split at h
   ·split at h <;> cases h
   ·cases h
  ·cases h; exact ⟨ts, by simp⟩
  ·cases h
 ·cases h
 ·cases h
 ·cases h
theorem news_keys {d : Nat} {rds : List RD} : ∀ s, (resNews d 0 (rds.flatMap RD.cells)).lookup s ≠ none → ∃ i, i < (rds.flatMap RD.cells).length ∧ s = siteOf d i := by
 intro s hs
 obtain ⟨c, hc⟩ := Option.ne_none_iff_exists'.1 hs
 obtain ⟨i, r, h1, ho, h2, _⟩ := resNews_lookup d _ 0 s c hc
 rw [Nat.zero_add] at h2
 exact ⟨i, (List.getElem?_eq_some_iff.1 h1).1, h2⟩
theorem call_eff {base : Nat} {o : Oper} {C : Con P} {d : Nat} {f : Operand} {args : List Operand} {ts : Array TypeId} {σ : Sig} {a : Act} {w : World} {obs : List Prop} {ev : Operand → AV} {H : Nat → Option Content} {caps : List AV}
  (hop : o.op = .call { callee := .value f, args := args.toArray, argTypes := ts }) (hev : ∀ x, RepA base w σ (ev x) (a.eval x)) (hH : ∀ s c, H s = some c → ∃ v, σ s = some v ∧ SiteOk base w σ v c)
  (hf : funOf (ev f) = some (C.f, caps)) (hfit : fitAs H (args.map ev ++ caps) C.args = some obs) (ho : All obs) (hbase : base ≤ w.heap.size) (hlv : ∀ b, Live σ b → b < w.heap.size)
  (hfree : ∀ s, (resEff d C.res).news.lookup s ≠ none → σ s = none) : EffOk P base o (resEff d C.res) σ a w := by
 obtain ⟨ps, hfe, hpl, hps⟩ := funOf_ok hf (hev f)
 obtain ⟨fn, hfn, hname, hbody⟩ := C.go
 have hargs := fitAs_ok hH (vs := args.map a.eval ++ ps) hfit ho (by simp [hpl]) (fun i x v hx hv => by
  rcases Nat.lt_or_ge i args.length with hi | hi
  ·rw [List.getElem?_append_left (by simpa using hi)] at hx hv
   rw [List.getElem?_map] at hx hv
   obtain ⟨y, hy, rfl⟩ := Option.map_eq_some_iff.1 hx
   rw [hy] at hv
   cases hv
   exact hev y
  ·rw [List.getElem?_append_right (by simpa using hi)] at hx hv
   simp only [List.length_map] at hx hv
   exact hps _ x v hx hv)
 have hcall := C.ok w (args.map a.eval ++ ps) hargs.1 hargs.2
 intro Kk Q hK
 unfold Oper.wp
 have hrun : (execOp a.eval o).run P w = .ok (.enter C.f (args.map a.eval ++ ps).toArray) w := by
  have hne : fn.body.isNone = false := by cases hb : fn.body with
   | none => rw [hb] at hbody; cases hbody
   | some c => rfl
  have hname' : fn.name ≠ "runtime.NumGoroutine" := by simpa using hname
  have hne' : fn.body ≠ none := by intro e; rw [e] at hne; cases hne
  simp [execOp, hop, resolve, hfe, Deferred.ofValue, invoke, callFunc, hfn]
  rw [if_neg hname', if_neg hne']
 rw [hrun]
 show Calls P C.f (args.map a.eval ++ ps).toArray w _
 refine hcall.mono ?_
 rintro e w' ⟨vs, us, rfl, hb, hres⟩
 obtain ⟨σ', hg, hr⟩ := resEff_grow hbase hb hres hlv hfree
 exact hK _ w' σ' hg hr
theorem Rel.eff {w0 : Base} {N : Nat} {o : Oper} {S : FS} {E : Eff} {σ : Sig} {a : Act} {w : World} (h : Rel w0 N S σ a w) (he : EffOk P w0.base o E σ a w) (hn : ∀ s, E.news.lookup s ≠ none → S.H s = none) (hd : ∀ d, o.dst = some d → d < N) : SeqOk P w0 N o (S.app o.dst E) a w :=
 fun Kk Q hK => he Kk Q fun v w' σ' hg hr => hK _ w' σ' (h.app hg hn hd hr)
theorem pickC_ok {base : Nat} {w w' : World} {σ : Sig} (he : Evo σ σ w w') : ∀ {out : List (Nat ⊕ Value)} {cs cs' : List CV} {vs : List Value}, pickC out cs = some cs' → RepCs base w σ cs vs → RepCs base w' σ cs' (pickV out vs)
 | [], cs, cs', vs, h, hr => by
   simp only [pickC, Option.some.injEq] at h
   subst h
   exact ⟨rfl, fun i c v hc => by simp at hc⟩
 | .inl j :: r, cs, cs', vs, h, hr => by
   simp only [pickC] at h
   split at h
   ·rename_i c0 l h1 h2
    cases h
    obtain ⟨k1, k2⟩ := pickC_ok he h2 hr
    refine ⟨by simpa [pickV] using k1, fun i c v hc hv => ?_⟩
    cases i with
    | zero =>
      have hlt : j < vs.length := by rw [← hr.1]; exact (List.getElem?_eq_some_iff.1 h1).1
      simp only [pickV, List.map_cons, List.getElem?_cons_zero, Option.some.injEq] at hc hv
      subst hc
      subst hv
      have h3 : RepC base w σ c0 (vs.getD j undef) := hr.2 j _ _ h1 (by rw [List.getD_eq_getElem?_getD, List.getElem?_eq_getElem hlt]; rfl)
      exact he.repC (fun _ _ => rfl) h3
    | succ i => exact k2 i c v (by simpa using hc) (by simpa [pickV] using hv)
   ·cases h
 | .inr u :: r, cs, cs', vs, h, hr => by
   simp only [pickC] at h
   split at h
   ·rename_i l h1 h2
    cases h
    obtain ⟨k1, k2⟩ := pickC_ok he h2 hr
    refine ⟨by simpa [pickV] using k1, fun i c v hc hv => ?_⟩
    cases i with
    | zero =>
      simp only [pickV, List.map_cons, List.getElem?_cons_zero, Option.some.injEq] at hc hv
      subst hc
      subst hv
      exact Rep.sc _ h1
    | succ i => exact k2 i c v (by simpa using hc) (by simpa [pickV] using hv)
   ·cases h
theorem shapes_len {ts : List RD} {vs us : List Value} (h : Shapes ts vs us) : (ts.flatMap RD.cells).length = us.length := by
 induction h with
 | nil => rfl
 | cons h hs ih =>
   cases h with
   | c x v => simp [RD.cells, ih]
   | agg xs vs hl => simp [RD.cells, ih, hl]
theorem shapes_agg {b0 : Nat} {w' : World} {l us' vs' : List Value} (h : ResOk b0 w' [.agg (l.map fun v => .p (.sc v))] vs' us') : vs' = [.agg l.toArray] := by
 have hs := h.shape
 have hl := shapes_len hs
 have hl : us'.length = l.length := by simpa [RD.cells] using hl.symm
 have hu : us'.map hdr = l := by
  refine List.ext_getElem (by simpa using hl) fun i hi hi' => ?_
  have hi2 : i < us'.length := by omega
  have h4 := h.cells i (.p (.sc l[i])) us'[i] (by simp [RD.cells, hi']) (by simp [hi2])
  replace h4 : Rep w' _ (.sc l[i]) us'[i] := h4
  rw [List.getElem_map]
  have h5 := h4.one
  generalize us'[i] = y at h4 h5
  cases h4
  exact hdr_one h5
 rw [hu] at hs
 generalize hrd : [RD.agg (l.map fun v => RC.p (.sc v))] = rd at hs
 generalize hll : l = l' at hs hrd
 cases hs with
 | nil => cases hrd
 | @cons r rs v vs us ws h1 h2 =>
   cases hrd
   cases h2
   cases h1 with
   | agg xs us h3 => rw [List.append_nil]
theorem pass_eff {w0 : Base} {N : Nat} {S : FS} {o : Oper} {C : PCon P} {f x : Operand} {ts : Array TypeId} {σ : Sig} {a : Act} {w : World} {cs cs' : List CV} (hr : Rel w0 N S σ a w)
  (hop : o.op = .call { callee := .value f, args := [x].toArray, argTypes := ts }) (hf : S.ev f = .fn C.f []) (hx : S.ev x = .t (.agg cs)) (hn : cs.length = C.n) (hc : pickC C.out cs = some cs') :
  EffOk P w0.base o ⟨.t (.agg cs'), []⟩ σ a w := by
 obtain ⟨ps, hfe, hpl, _⟩ : ∃ ps : List Value, a.eval f = .func (.func C.f) #[] ps.toArray ∧ ps.length = 0 ∧ True := by
  have := hr.ev f
  rw [hf] at this
  obtain ⟨ps, h1, h2, _⟩ := this
  exact ⟨ps, h1, by simpa using h2, trivial⟩
 obtain rfl := List.eq_nil_of_length_eq_zero hpl
 obtain ⟨vs, hxe, hvs⟩ : ∃ vs : List Value, a.eval x = .agg vs.toArray ∧ RepCs w0.base w σ cs vs := by
  have := hr.ev x
  rw [hx] at this
  exact this
 have hone := hvs.one
 obtain ⟨fn, hfn, hname, hbody⟩ := C.go
 have hcall := C.ok vs (by rw [← hvs.1, hn]) hone w [a.eval x] rfl (fun i d v hd hv => by
  cases i with
  | zero =>
    simp at hd hv
    subst hd
    subst hv
    refine ⟨vs, hxe, by simp, fun i y u hy hu => ?_⟩
    rw [List.getElem?_map, hu] at hy
    cases hy
    exact .sc u (hone u (List.mem_of_getElem? hu))
  | succ i => simp at hd)
 intro Kk Q hK
 unfold Oper.wp
 have hrun : (execOp a.eval o).run P w = .ok (.enter C.f [a.eval x].toArray) w := by
  have hne : fn.body.isNone = false := by cases hb : fn.body with
   | none => rw [hb] at hbody; cases hbody
   | some c => rfl
  have hname' : fn.name ≠ "runtime.NumGoroutine" := by simpa using hname
  have hne' : fn.body ≠ none := by intro e; rw [e] at hne; cases hne
  simp [execOp, hop, resolve, hfe, Deferred.ofValue, invoke, callFunc, hfn]
  rw [if_neg hname', if_neg hne']
 rw [hrun]
 show Calls P C.f [a.eval x].toArray w _
 refine hcall.mono ?_
 rintro e w' ⟨vs', us', rfl, hb, hres⟩
 obtain rfl := shapes_agg hres
 have hg : Grow w0.base σ σ w w' [] := Grow.none hb
 exact hK _ w' σ hg ⟨_, rfl, pickC_ok (Grow.evo hr hg) hc hvs⟩
theorem move_ok {w0 : Base} {N : Nat} {S : FS} {o : Oper} {C : MCon P} {f x : Operand} {xs : List Operand} {obs : List Prop} {ts : Array TypeId} {σ : Sig} {a : Act} {w : World} {s n : Nat} {h : Nat → List V} {fr : Bool} {e : TypeId} (hr : Rel w0 N S σ a w)
  (hop : o.op = .call { callee := .value f, args := (x :: xs).toArray, argTypes := ts }) (hf : S.ev f = .fn C.f []) (hx : S.ev x = .t (.c (.h s))) (hH : S.H s = some (.row e 1 n h fr)) (hfit : fitAs (fun s' => if s' = s then none else S.H s') (xs.map S.ev) C.extra = some obs) (ho : All obs) (he : e = C.e) (hg : GE n h C.cs.length (scG C.cs))
  (hd : ∀ d, o.dst = some d → d < N) : SeqOk P w0 N o ((S.sub s .any (some (.row C.e 1 C.cs'.length (scG C.cs') true))).put o.dst (.t (.c (.h s)))) a w := by
 obtain ⟨ps, hfe, hpl⟩ : ∃ ps : List Value, a.eval f = .func (.func C.f) #[] ps.toArray ∧ ps.length = 0 := by
  have := hr.ev f
  rw [hf] at this
  obtain ⟨ps, h1, h2, _⟩ := this
  exact ⟨ps, h1, by simpa using h2⟩
 obtain rfl := List.eq_nil_of_length_eq_zero hpl
 obtain ⟨v, hv, ys, h1, h2, h3, h4⟩ := hr.sites s _ hH
 have hxe : a.eval x = v := by
  have := hr.ev x
  rw [hx] at this
  have := this.1
  rw [hv] at this
  exact (Option.some.inj this).symm
 subst he
 obtain ⟨rfl, hg⟩ := hg
 have hxs : ys = C.cs := by
  have hl : ys.length = C.cs.length := by rw [h1.1, Nat.mul_one]
  refine List.ext_getElem hl fun i hi hi' => ?_
  obtain ⟨y, hy, hyx⟩ := (hg i hi').2 0 (.sc (C.cs.getD i undef)) rfl
  obtain ⟨u, hu, hru⟩ := h4 i 0 y hi' hy
  have := hyx _ _ _ hru
  rw [Nat.mul_one, Nat.add_zero, List.getElem?_eq_getElem hi] at hu
  cases hu
  rw [List.getD_eq_getElem?_getD, List.getElem?_eq_getElem hi'] at this
  replace this : Rep w _ (.sc C.cs[i]) ys[i] := this
  generalize ys[i] = p at this
  generalize C.cs[i] = q at this
  cases this
  rfl
 subst hxs
 have hbase := hr.based
 obtain ⟨fn, hfn, hname, hbody⟩ := C.go
 have hblk : ∀ (u : Value) (b : Nat), (∃ A n c, u = .slice A n c) → (Own u b ↔ u.ownBlock = some b) := fun u b ⟨A, n, c, e⟩ => by subst e; rw [own_slice]; cases A <;> exact Iff.rfl
 have hvs : ∃ A n c, v = .slice A n c := by rcases h1.2 with ⟨rfl, _⟩ | ⟨_, _, _, rfl, _⟩ <;> exact ⟨_, _, _, rfl⟩
 have hext : ∀ w1, w.grownBy w1 v.ownBlock → C.extra.length = (xs.map a.eval).length ∧ ∀ (i : Nat) d u, C.extra[i]? = some d → (xs.map a.eval)[i]? = some u → ArgOk w1 d u := fun w1 hg1 => by
  have hev : Evo σ σ w w1 := ⟨hg1.size, fun b hb hl => hg1.block b hb (fun e => hl ⟨s, v, hv, (hblk v b hvs).2 e.symm⟩), fun b hb hl => hl⟩
  refine fitAs_ok (base := w0.base) (w := w1) (σ := σ) (fun s' c hs' => ?_) hfit ho (by simp) (fun i y u hy hu => ?_)
  ·by_cases e' : s' = s
   ·simp [e'] at hs'
   ·simp only [e', if_false] at hs'
    obtain ⟨v', hv', hso⟩ := hr.sites s' c hs'
    refine ⟨v', hv', hev.site (fun b hb => hg1.block b (hso.block hb).2 (fun e2 => e' (hr.inj s' s v' v b hv' hv hb ((hblk v b hvs).2 e2.symm)))) (fun _ _ _ _ _ => rfl) hso⟩
  ·rw [List.getElem?_map] at hy hu
   obtain ⟨z, hz, rfl⟩ := Option.map_eq_some_iff.1 hy
   rw [hz] at hu
   cases hu
   exact hev.repA (fun _ _ => rfl) (hr.ev z)
 have hcall := C.ok w w0.base v (xs.map a.eval) hbase (h1.own C.he) hext
 have hrun : (execOp a.eval o).run P w = .ok (.enter C.f (v :: xs.map a.eval).toArray) w := by
  have hne : fn.body.isNone = false := by cases hb : fn.body with
   | none => rw [hb] at hbody; cases hbody
   | some c => rfl
  have hname' : fn.name ≠ "runtime.NumGoroutine" := by simpa using hname
  have hne' : fn.body ≠ none := by intro e; rw [e] at hne; cases hne
  simp [execOp, hop, resolve, hfe, Deferred.ofValue, invoke, callFunc, hfn, hxe]
  rw [if_neg hname', if_neg hne']
 intro Kk Q hK
 unfold Oper.wp
 rw [hrun]
 show Calls P C.f (v :: xs.map a.eval).toArray w _
 refine hcall.mono ?_
 rintro ex w' ⟨v', rfl, ho', hgr, hown⟩
 have hvs' : ∃ A n c, v' = .slice A n c := by rcases ho'.2 with ⟨rfl, _⟩ | ⟨_, _, _, rfl, _⟩ <;> exact ⟨_, _, _, rfl⟩
 have hv1 : v.oneCell' = true := by obtain ⟨_, _, _, rfl⟩ := hvs; rfl
 have hv1' : v'.oneCell' = true := by obtain ⟨_, _, _, rfl⟩ := hvs'; rfl
 have hrel := hr.sub (x := .any) (c := some (.row C.e 1 C.cs'.length (scG C.cs') true)) (hd := some v') hv (Below.grown (Below.refl _ _) hgr hbase (fun k hk => (h1.lt k hk).1)) (fun b hb hne => hgr.block b hb (fun e => hne ((hblk v b hvs).2 e.symm)))
  (fun u hu b hb => by cases hu; rw [hblk _ _ hvs'] at hb; rw [hblk _ _ hvs]; exact hown b hb) (fun _ _ => hv1)
  (fun k hk => by
    cases hk
    refine ⟨v', rfl, fun hev => ⟨C.cs', ORow.of_own ho' C.he, C.one, fun j _ => rfl, fun j q y hj hy => ?_⟩⟩
    cases q with
    | zero =>
      simp only [scG, List.getElem?_cons_zero, Option.some.injEq] at hy
      subst hy
      refine ⟨C.cs'.getD j undef, ?_, ?_⟩
      ·rw [Nat.mul_one, Nat.add_zero, List.getD_eq_getElem?_getD, List.getElem?_eq_getElem hj]; rfl
      ·refine .sc _ (C.one _ ?_)
       rw [List.getD_eq_getElem?_getD, List.getElem?_eq_getElem hj]
       exact List.getElem_mem hj
    | succ q => simp [scG] at hy) (fun hk => by cases hk)
 exact hK _ w' _ (hrel.put hd ⟨by simp [upd], hv1'⟩)
theorem kindOf_next {op : Op} {it : Operand} (h : kindOf op = .next it) : op = .next it true := by
 unfold kindOf at h
 split at h
 ·cases h
 ·split at h
  ·split at h
   ·split at h <;> cases h
   ·cases h
  ·cases h
  ·cases h
 ·cases h; rfl
 ·cases h
 ·cases h
theorem kindOf_upd {op : Op} {t : TypeId} {m x v : Operand} (h : kindOf op = .upd t m x v) : op = .mapUpdate t m x v := by
 unfold kindOf at h
 split at h
 ·cases h
 ·split at h
  ·split at h
   ·split at h <;> cases h
   ·cases h
  ·cases h
  ·cases h
 ·cases h
 ·cases h; rfl
 ·cases h
theorem upd_ok {w0 : Base} {N : Nat} {o : Oper} {S : FS} {σ : Sig} {a : Act} {w : World} {t kt bt : TypeId} {m x v : Operand} {s n : Nat} {l : List Int} {y : Int} (hr : Rel w0 N S σ a w) (hop : o.op = .mapUpdate t m x v) (hm : S.ev m = .t (.c (.h s)))
  (hx : scOf (S.ev x) = some (.int .i64 y)) (hv : scOf (S.ev v) = some (.bool true)) (hu : P.underlying t = some (.map kt bt)) (hd : o.dst = none) (hH : S.H s = some (.set P kt bt n l)) (hk : P.underlying kt = some (.int .i64)) (hb : P.underlying bt = some .bool)
  (hn : n < maxLen) (hwf : (Lit.int .i64 y).wf = true) : SeqOk P w0 N o ⟨S.T, upd S.H s (some (.set P kt bt (n + 1) (y :: l)))⟩ a w := by
 have e2 := (scOf_rep hx (hr.ev x)).1
 have e3 := (scOf_rep hv (hr.ev v)).1
 obtain ⟨u, hσ, b, rfl, hb1, hset⟩ := hr.sites s _ hH
 have e1 : a.eval m = .map (some b) := by
  have := hr.ev m
  rw [hm] at this
  have := this.1
  rw [hσ] at this
  exact (Option.some.inj this).symm
 obtain ⟨w', hrun, hset', hgr⟩ := hset.store (Go.Maps.int_keyed hk) hu hk hb hn y hwf
 intro Kk Q hK
 unfold Oper.wp
 have hex : (execOp a.eval o).run P w = .ok .skip w' := by
  simp [execOp, hop, e1, e2, e3, hrun]
 rw [hex]
 have e4 : a.put o.dst undef = a := by rw [hd]; rfl
 show Kk (a.put o.dst undef) _
 rw [e4]
 exact hK _ _ σ (hr.write hσ (Below.grown (Below.refl _ _) hgr hr.based (fun k hk => by cases hk; exact hb1)) (fun b' hb' hne => hgr.block b' hb' (fun e => hne (by cases e; exact own_of rfl))) (fun _ => ⟨b, rfl, hb1, hset'⟩))
theorem next_ok {w0 : Base} {N : Nat} {o : Oper} {S : FS} {σ : Sig} {a : Act} {w : World} {it : Operand} {s pos : Nat} {str : ByteArray} (hr : Rel w0 N S σ a w) (hop : o.op = .next it true) (hev : S.ev it = .ptr s 0) (hH : S.H s = some (.iter str pos))
  (hd : ∀ d, o.dst = some d → d < N) :
  (pos < str.size → SeqOk P w0 N o (FS.put ⟨S.T, upd S.H s (some (.iter str (pos + (Utf8.decode str pos).2)))⟩ o.dst (.tup [.c (.p true (.sc (.bool true))), .c (.p true (.sc (.int .i64 (pos : Int)))), .c (.p true (.sc (.int .i32 (Utf8.decode str pos).1)))])) a w) ∧
  (¬ pos < str.size → SeqOk P w0 N o (S.put o.dst (.tup [.c (.p true (.sc (.bool false)))])) a w) := by
 obtain ⟨b, hσ, hit⟩ : ∃ b, σ s = some (.pointer (some ⟨b, 0, none⟩)) ∧ a.eval it = .pointer (some ⟨b, 0, none⟩) := by
  have := hr.ev it
  rw [hev] at this
  exact this
 obtain ⟨v, hv, b', hvb, hb, hheap⟩ := hr.sites s _ hH
 rw [hσ] at hv
 cases hv
 cases hvb
 refine ⟨fun hlt Kk Q hk => ?_, fun hlt Kk Q hk => ?_⟩
 ·have hrun := Go.Lib.run_next_any_at (P := P) w b str pos o.type hheap hlt
  unfold Oper.wp
  have : (execOp a.eval o).run P w = .ok (.value (.tuple #[.bool true, .int .i64 pos, .int .i32 (Utf8.decode str pos).1])) (w.iterAt b str (pos + (Utf8.decode str pos).2)) := by
   simp [execOp, hop, hit, hrun]
  rw [this]
  have hlt' := (Array.getElem?_eq_some_iff.1 hheap).1
  have hrel : Rel w0 N ⟨S.T, upd S.H s (some (.iter str (pos + (Utf8.decode str pos).2)))⟩ σ a (w.iterAt b str (pos + (Utf8.decode str pos).2)) :=
   hr.write hσ (Go.Lib.below_iterAt (Below.refl _ _) hb str _) (fun k hk hne => Go.Lib.iterAt_other w b k str _ (fun e => hne (own_of (by simp [blk, e])))) (fun _ => ⟨b, rfl, hb, Go.Lib.iterAt_heap w b str pos _ hheap⟩)
  exact hk _ _ σ (hrel.put hd ⟨_, rfl, rfl, fun i t v ht hv => by
   match i, ht, hv with
   | 0, ht, hv => simp at ht hv; subst ht; subst hv; exact .sc _ rfl
   | 1, ht, hv => simp at ht hv; subst ht; subst hv; exact .sc _ rfl
   | 2, ht, hv => simp at ht hv; subst ht; subst hv; exact .sc _ rfl
   | i + 3, ht, hv => simp at ht⟩)
 ·have hrun := Go.Lib.run_next_end_at (P := P) w b str pos o.type hheap hlt
  unfold Oper.wp
  have : (execOp a.eval o).run P w = .ok (.value (.tuple #[.bool false])) w := by
   simp [execOp, hop, hit, hrun]
  rw [this]
  exact hk _ _ σ (hr.put hd ⟨_, rfl, rfl, fun i t v ht hv => by
   match i, ht, hv with
   | 0, ht, hv => simp at ht hv; subst ht; subst hv; exact .sc _ rfl
   | i + 1, ht, hv => simp at ht⟩)
theorem opStep_ok {w0 : Base} {N : Nat} {o : Oper} {S S' : FS} {orc orc' : List (Orc P)} {obs : List Prop} {σ : Sig} {a : Act} {w : World} (h : opStep P o S orc = some (obs, orc', S')) (ho : All obs)
  (hd : dstOk N o.dst = true) (hr : Rel w0 N S σ a w) : SeqOk P w0 N o S' a w := by
 have hd' : ∀ d, o.dst = some d → d < N := fun d e => by rw [e] at hd; simpa [dstOk] using hd
 unfold opStep at h
 split at h
 ·rename_i t x y hk
  split at h
  ·rename_i xs hdst hc
   split at h
   ·rename_i S1 hs
    simp only [Option.some.injEq, Prod.mk.injEq] at h
    obtain ⟨rfl, rfl, rfl⟩ := h
    exact evStore_ok (kindOf_store hk) hdst hr (hr.ev x) (cellsOf_rep hc (hr.ev y)) hs
   ·split at h
    ·rename_i obs' S1 hs
     simp only [Option.some.injEq, Prod.mk.injEq] at h
     obtain ⟨rfl, rfl, rfl⟩ := h
     exact nStore_ok (kindOf_store hk) hdst hr (hr.ev x) (cellsOf_rep hc (hr.ev y)) hs ho
    ·cases h
  ·cases h
 ·rename_i t x y hk
  split at h
  ·rename_i obs' sid S1 hs
   simp only [Option.some.injEq, Prod.mk.injEq] at h
   obtain ⟨rfl, rfl, rfl⟩ := h
   exact evAppend_ok (kindOf_append hk) hr (hr.ev x) (hr.ev y) hs ho hd'
  ·split at h
   ·rename_i obs' sid S1 hs
    simp only [Option.some.injEq, Prod.mk.injEq] at h
    obtain ⟨rfl, rfl, rfl⟩ := h
    exact nAppend_ok (kindOf_append hk) hr (hr.ev x) (hr.ev y) hs ho hd'
   ·cases h
 ·rename_i f args hk
  obtain ⟨ts, hop⟩ := kindOf_call hk
  split at h
  ·rename_i C orc'' d hdst
   split at h
   ·rename_i obs' S1 hs
    simp only [Option.some.injEq, Prod.mk.injEq] at h
    obtain ⟨rfl, rfl, rfl⟩ := h
    obtain ⟨σ1, hr1, hfree⟩ := dropN_ok hr d (C.res.flatMap RD.cells).length
    unfold callStep at hs
    split at hs
    ·rename_i g caps hf
     split at hs
     ·rename_i obs2 hfit
      ·simp only [Option.some.injEq, Prod.mk.injEq] at hs
       obtain ⟨rfl, rfl⟩ := hs
       obtain ⟨hg, ho2⟩ := All.cons.1 ho
       have hfr : ∀ s, (resEff d C.res).news.lookup s ≠ none → σ1 s = none := fun s hs => by
        obtain ⟨i, hi, rfl⟩ := news_keys s hs
        exact hfree i hi
       rw [← hdst]
       exact hr1.eff (call_eff hop hr1.ev hr1.sites (by rw [hf, hg]) hfit ho2 hr1.based (fun b hb => (hr1.live hb).2) hfr) (fun s hs => hr1.none_of (hfr s hs)) hd'
     ·cases hs
    ·cases hs
   ·cases h
  ·rename_i C orc'' d hdst
   split at h
   ·rename_i obs' S1 hs
    simp only [Option.some.injEq, Prod.mk.injEq] at h
    obtain ⟨rfl, rfl, rfl⟩ := h
    unfold moveStep at hs
    split at hs
    ·rename_i g x xs hf
     split at hs
     ·rename_i s hx
      split at hs
      ·rename_i e n h fr hH
       split at hs
       ·rename_i ob2 hfit
        simp only [Option.some.injEq, Prod.mk.injEq] at hs
        obtain ⟨rfl, rfl⟩ := hs
        obtain ⟨hg, ho⟩ := All.cons.1 ho
        obtain ⟨he, ho⟩ := All.cons.1 ho
        obtain ⟨hge, ho⟩ := All.cons.1 ho
        rw [← hdst]
        exact move_ok hr hop (by rw [hf, hg]) hx hH hfit ho he hge hd'
       ·cases hs
      ·cases hs
     ·cases hs
    ·cases hs
   ·cases h
  ·rename_i C orc'' d hdst
   split at h
   ·rename_i obs' S1 hs
    simp only [Option.some.injEq, Prod.mk.injEq] at h
    obtain ⟨rfl, rfl, rfl⟩ := h
    unfold passStep at hs
    split at hs
    ·rename_i g x hf
     split at hs
     ·rename_i cs hx
      split at hs
      ·rename_i hn
       split at hs
       ·rename_i cs' hc
        simp only [Option.some.injEq, Prod.mk.injEq] at hs
        obtain ⟨rfl, rfl⟩ := hs
        have hg : C.f = g := ho
        rw [← hdst]
        exact hr.eff (pass_eff hr hop (by rw [hf, hg]) hx hn hc) (fun s hs => by simp at hs) hd'
       ·cases hs
      ·cases hs
     ·cases hs
    ·cases hs
   ·cases h
  ·rename_i C m orc'' d hdst
   split at h
   ·rename_i obs' S1 hs
    simp only [Option.some.injEq, Prod.mk.injEq] at h
    obtain ⟨rfl, rfl, rfl⟩ := h
    exact wcall_ok hr hr.ev hop (by rw [hdst]; exact hs) ho hd'
   ·cases h
  ·rename_i C orc'' d hdst
   split at h
   ·rename_i obs' S1 hs
    simp only [Option.some.injEq, Prod.mk.injEq] at h
    obtain ⟨rfl, rfl, rfl⟩ := h
    exact icall_ok hr hr.ev hop (by rw [hdst]; exact hs) ho hd'
   ·cases h
  ·rename_i _ C orc''
   split at h
   ·rename_i obs' S1 hs
    simp only [Option.some.injEq, Prod.mk.injEq] at h
    obtain ⟨rfl, rfl, rfl⟩ := h
    obtain ⟨σ1, hr1, hfree⟩ := dropN_ok hr (o.dst.getD 999999) (C.res.flatMap RD.cells).length
    unfold qOp at hs
    split at hs
    ·rename_i obs2 s c E hq
     split at hs
     ·rename_i hsome
      simp only [Option.some.injEq, Prod.mk.injEq] at hs
      obtain ⟨rfl, rfl⟩ := hs
      refine qcall_ok hr1 hr1.ev hr1.sites hop hq ho hsome (fun s' hs' => ?_) hd'
      rw [qStep_eff hq] at hs'
      obtain ⟨i, hi, rfl⟩ := news_keys s' hs'
      exact hr1.none_of (hfree i hi)
     ·cases hs
    ·cases hs
   ·cases h
  ·rename_i C orc'' d hdst
   split at h
   ·rename_i obs' E hs
    simp only [Option.some.injEq, Prod.mk.injEq] at h
    obtain ⟨rfl, rfl, rfl⟩ := h
    obtain ⟨σ1, hr1, hfree⟩ := dropN_ok hr d 1
    have hkey : ∀ s, E.news.lookup s ≠ none → (dropN S d 1).H s = none := fun s hs' => by
     rw [nStep_key hs hs']
     exact hr1.none_of (hfree 0 (by omega))
    rw [← hdst]
    exact hr1.eff (ncall_ok hr1 hr1.ev hop hs ho hkey) hkey hd'
   ·cases h
  ·cases h
 ·rename_i t m x v hk
  have hop := kindOf_upd hk
  split at h
  ·rename_i s y kt bt hm hx hv hu hdst
   split at h
   ·rename_i P' kt' bt' n l hH hk1 hb1
    split at h
    ·rename_i hc
     obtain ⟨rfl, rfl⟩ := hc
     simp only [Option.some.injEq, Prod.mk.injEq] at h
     obtain ⟨rfl, rfl, rfl⟩ := h
     obtain ⟨hP, hn, hwf⟩ := ho
     subst hP
     exact upd_ok hr hop hm hx hv hu hdst hH hk1 hb1 hn hwf
    ·cases h
   ·cases h
  ·cases h
 ·rename_i it hk
  have hop := kindOf_next hk
  split at h
  ·rename_i s' d v orc'' d' hev hdst
   split at h
   ·rename_i str pos hH
    split at h
    ·split at h
     ·simp only [Option.some.injEq, Prod.mk.injEq] at h
      obtain ⟨rfl, rfl, rfl⟩ := h
      exact (next_ok hr hop hev hH hd').1 ho
     ·simp only [Option.some.injEq, Prod.mk.injEq] at h
      obtain ⟨rfl, rfl, rfl⟩ := h
      exact (next_ok hr hop hev hH hd').2 ho
    ·cases h
   ·cases h
  ·cases h
 ·split at h
  ·rename_i obs' S1 hs
   simp only [Option.some.injEq, Prod.mk.injEq] at h
   obtain ⟨rfl, rfl, rfl⟩ := h
   obtain ⟨σ1, hr1, hfree⟩ : ∃ σ1, Rel w0 N (match o.dst with | some d => dropN S d 1 | none => S) σ1 a w ∧ ∀ d, o.dst = some d → σ1 (siteOf d 0) = none := by
    cases hdst : o.dst with
    | none => exact ⟨σ, hr, fun d e => by cases e⟩
    | some d =>
      obtain ⟨σ1, h1, h2⟩ := dropN_ok hr d 1
      exact ⟨σ1, h1, fun d' e => by cases e; exact h2 0 (by omega)⟩
   generalize (match o.dst with | some d => dropN S d 1 | none => S) = S2 at hs hr1
   unfold otherStep at hs
   split at hs
   ·rename_i obs2 av he
    simp only [Option.some.injEq, Prod.mk.injEq] at hs
    obtain ⟨rfl, rfl⟩ := hs
    exact hr1.eff (evOp_ok he ho hr1.ev hr1.sites hr1.based (fun s hs => by simp at hs)) (fun s hs => by simp at hs) hd'
   ·rename_i obs2 av s c he
    split at hs
    ·rename_i d hdst
     split at hs
     ·rename_i hsd
      simp only [Option.some.injEq, Prod.mk.injEq] at hs
      obtain ⟨rfl, rfl⟩ := hs
      have hk : ∀ s', [(s, c)].lookup s' ≠ none → σ1 s' = none := fun s' hs' => by
       have e : s' = s := by
        simp only [List.lookup_cons, List.lookup_nil] at hs'
        split at hs'
        ·rename_i he; simpa using he
        ·exact absurd rfl hs'
       rw [e, hsd]
       exact hfree d hdst
      exact hr1.eff (evOp_ok he ho hr1.ev hr1.sites hr1.based hk) (fun s hs => hr1.none_of (hk s hs)) hd'
     ·cases hs
    ·cases hs
   ·cases hs
  ·split at h
   ·rename_i obs' av hs
    simp only [Option.some.injEq, Prod.mk.injEq] at h
    obtain ⟨rfl, rfl, rfl⟩ := h
    exact hr.eff (nOther_ok hr.sites hr.ev hs ho) (fun s hs => by simp at hs) hd'
   ·split at h
    ·rename_i obs' S1 hs
     simp only [Option.some.injEq, Prod.mk.injEq] at h
     obtain ⟨rfl, rfl, rfl⟩ := h
     obtain ⟨σ1, hr1, hfree⟩ : ∃ σ1, Rel w0 N (match o.dst with | some d => dropN S d 1 | none => S) σ1 a w ∧ ∀ d, o.dst = some d → σ1 (siteOf d 0) = none := by
      cases hdst : o.dst with
      | none => exact ⟨σ, hr, fun d e => by cases e⟩
      | some d =>
        obtain ⟨σ1, h1, h2⟩ := dropN_ok hr d 1
        exact ⟨σ1, h1, fun d' e => by cases e; exact h2 0 (by omega)⟩
     generalize (match o.dst with | some d => dropN S d 1 | none => S) = S2 at hs hr1
     exact nLit_ok hr1 hfree hr1.ev hs ho hd'
    ·cases h
end Go.Av