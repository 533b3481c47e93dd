/- The whole: a function's text is run (ev), and the machine comes to what is told. -/
import Derived.Test.YtnnppdjmhellcaaGreatAvN
namespace Go.Av
open Go Go.RowKit
set_option linter.unusedVariables false
set_option linter.unusedSimpArgs false
variable {P : Program}

def look (T : List (Nat × AV)) (t : Nat) : AV := match T.lookup t with
  | some av => av
  | none => .any
/-- The state in which only this is known. -/
def mkFS (T : List (Nat × AV)) (H : List (Nat × Content)) : FS := ⟨look T, fun s => H.lookup s⟩

def fitCC : CV → CV → Option (List Prop)
  | .p f x, .p f' y => if !f' || f || isSc x then some [VE x y] else none
  | .h s, .h s' => if s = s' then some [] else none
  | .p _ _, .any => some []
  | .h _, .any => some []
  | .any, .any => some []
  | _, _ => none
def fitCCs : List CV → List CV → Option (List Prop)
  | [], [] => some []
  | c :: cs, y :: ys => match fitCC c y, fitCCs cs ys with
    | some l, some r => some (l ++ r)
    | _, _ => none
  | _, _ => none
def fitVs : List V → List V → Option (List Prop)
  | [], [] => some []
  | c :: cs, y :: ys => match fitVs cs ys with
    | some r => some (VE c y :: r)
    | _ => none
  | _, _ => none
def fitVss : List (List V) → List (List V) → Option (List Prop)
  | [], [] => some []
  | c :: cs, y :: ys => match fitVs c y, fitVss cs ys with
    | some l, some r => some (l ++ r)
    | _, _ => none
  | _, _ => none
def fitAV : AV → AV → Option (List Prop)
  | .t (.c x), .t (.c y) => fitCC x y
  | .t (.agg xs), .t (.agg ys) => fitCCs xs ys
  | .ptr s off, .ptr s' off' => if s = s' ∧ off = off' then some [] else none
  | .bptr f e, .bptr f' e' => if f = f' then fitVs e e' else none
  | .fn g caps, .fn g' caps' => if g = g' ∧ caps = caps' then some [] else none
  | .bfn g xs, .bfn g' es => (fitVss xs es).map fun l => (g = g') :: l
  | _, _ => none
def fitT (T : Nat → AV) : List (Nat × AV) → Option (List Prop)
  | [] => some []
  | (t, av) :: r => match fitAV (T t) av, fitT T r with
    | some l, some l' => some (l ++ l')
    | _, _ => none
def fitK : Content → Content → Option (List Prop)
  | .box t cs, .box t' cs' => if t = t' then fitCCs cs cs' else none
  | .row e z n g f, .row e' z' n' g' f' => if e = e' ∧ z = z' ∧ (!f' || f) = true then some [GE n g n' g'] else none
  | .iter s p, .iter s' p' => some [s = s', p = p']
  | .set P kt bt n l, .set P' kt' bt' n' l' => if kt = kt' ∧ bt = bt' then some [P = P', n = n', l = l'] else none
  | _, _ => none
def fitH (H : Nat → Option Content) : List (Nat × Content) → Option (List Prop)
  | [] => some []
  | (s, c) :: r => match H s with
    | some k => match fitK k c, fitH H r with
      | some l, some l' => some (l ++ l')
      | _, _ => none
    | none => none
/-- Only these sites are named. -/
def closed (T : List (Nat × AV)) (H : List (Nat × Content)) : Bool :=
  T.all (fun x => x.2.sites.all fun s => (H.lookup s).isSome) && H.all (fun x => match x.2 with
    | .box _ cs => (cs.flatMap CV.sites).all fun s => (H.lookup s).isSome
    | _ => true)

theorem fitVs_ok {w : World} {ok : Nat → Prop} : ∀ {xs ys : List V} {l : List Prop}, fitVs xs ys = some l → All l → xs.length = ys.length ∧ ∀ (q : Nat) y, ys[q]? = some y → ∃ x, xs[q]? = some x ∧ VE x y
  | [], [], l, h, ho => ⟨rfl, fun q y hy => by simp at hy⟩
  | [], _ :: _, l, h, ho => by simp [fitVs] at h
  | _ :: _, [], l, h, ho => by simp [fitVs] at h
  | x :: xs, y :: ys, l, h, ho => by
    simp only [fitVs] at h
    split at h
    · rename_i r hr
      cases h
      obtain ⟨h1, h2⟩ := All.cons.1 ho
      obtain ⟨k1, k2⟩ := fitVs_ok (w := w) (ok := ok) hr h2
      refine ⟨by simp [k1], fun q y' hy => ?_⟩
      cases q with
      | zero => simp at hy; subst hy; exact ⟨x, rfl, h1⟩
      | succ q => exact k2 q y' (by simpa using hy)
    · cases h

theorem fitVss_ok : ∀ {xs ys : List (List V)} {l : List Prop}, fitVss xs ys = some l → All l → xs.length = ys.length ∧ ∀ (i : Nat) x y, xs[i]? = some x → ys[i]? = some y → x.length = y.length ∧ ∀ (q : Nat) v, y[q]? = some v → ∃ u, x[q]? = some u ∧ VE u v
  | [], [], l, h, ho => ⟨rfl, fun q x y hy => by simp at hy⟩
  | [], _ :: _, l, h, ho => by simp [fitVss] at h
  | _ :: _, [], l, h, ho => by simp [fitVss] at h
  | x :: xs, y :: ys, l, h, ho => by
    simp only [fitVss] at h
    split at h
    · rename_i l1 l2 h1 h2
      cases h
      obtain ⟨ho1, ho2⟩ := All.append.1 ho
      obtain ⟨k1, k2⟩ := fitVss_ok h2 ho2
      have k0 := fitVs_ok (w := default) (ok := fun _ => True) h1 ho1
      refine ⟨by simp [k1], fun i x' y' hx hy => ?_⟩
      cases i with
      | zero => simp at hx hy; subst hx; subst hy; exact k0
      | succ i => exact k2 i x' y' (by simpa using hx) (by simpa using hy)
    · cases h
section
variable {base : Nat} {w : World} {σ σ' : Sig}
theorem fitCC_ok (he : Evo σ σ' w w) {c c' : CV} {l : List Prop} {v : Value} (h : fitCC c c' = some l) (ho : All l) (hs : ∀ s ∈ c'.sites, σ' s = σ s) (hr : RepC base w σ c v) : RepC base w σ' c' v := by
  unfold fitCC at h
  split at h
  · rename_i f x f' y
    split at h
    · rename_i hc
      cases h
      show Rep w _ y v
      refine ho w _ v ?_
      replace hr : Rep w (K base w σ f) x v := hr
      cases x with
      | sc u => cases hr with | sc u h1 => exact .sc _ h1
      | row z n g =>
        refine (he.rep hr).weak (fun e => ?_)
        subst e
        simpa [isSc] using hc
    · cases h
  · rename_i s s'
    split at h
    · rename_i e
      subst e
      exact ⟨(hs s (by simp [CV.sites])).trans hr.1, hr.2⟩
    · cases h
  · exact hr.one
  · exact hr.one
  · exact hr
  · cases h
theorem fitCCs_ok (he : Evo σ σ' w w) : ∀ {cs cs' : List CV} {l : List Prop} {vs : List Value}, fitCCs cs cs' = some l → All l → (∀ s ∈ cs'.flatMap CV.sites, σ' s = σ s) → RepCs base w σ cs vs → RepCs base w σ' cs' vs
  | [], [], l, vs, h, ho, hs, hr => ⟨hr.1, fun i c v hc => by simp at hc⟩
  | [], _ :: _, l, vs, h, ho, hs, hr => by simp [fitCCs] at h
  | _ :: _, [], l, vs, h, ho, hs, hr => by simp [fitCCs] at h
  | c :: cs, y :: ys, l, [], h, ho, hs, hr => by have := hr.1; simp at this
  | c :: cs, y :: ys, l, v :: vs, h, ho, hs, hr => by
    simp only [fitCCs] at h
    split at h
    · rename_i l1 l2 h1 h2
      cases h
      obtain ⟨ho1, ho2⟩ := All.append.1 ho
      have hr' : RepCs base w σ cs vs := ⟨by have := hr.1; simpa using this, fun i c v hc hv => hr.2 (i + 1) c v (by simpa using hc) (by simpa using hv)⟩
      have k := fitCCs_ok he h2 ho2 (fun s hs' => hs s (by rw [List.flatMap_cons]; exact List.mem_append_right _ hs')) hr'
      have k0 := fitCC_ok he h1 ho1 (fun s hs' => hs s (by rw [List.flatMap_cons]; exact List.mem_append_left _ hs')) (hr.2 0 c v rfl rfl)
      refine ⟨by simp [k.1], fun i c' v' hc hv => ?_⟩
      cases i with
      | zero => simp at hc hv; subst hc; subst hv; exact k0
      | succ i => exact k.2 i c' v' (by simpa using hc) (by simpa using hv)
    · cases h
theorem fitAV_ok (he : Evo σ σ' w w) {c c' : AV} {l : List Prop} {v : Value} (h : fitAV c c' = some l) (ho : All l) (hs : ∀ s ∈ c'.sites, σ' s = σ s) (hr : RepA base w σ c v) : RepA base w σ' c' v := by
  unfold fitAV at h
  split at h
  · exact fitCC_ok he h ho hs hr
  · obtain ⟨vs, rfl, hr⟩ := hr
    exact ⟨vs, rfl, fitCCs_ok he h ho hs hr⟩
  · rename_i s off s' off'
    split at h
    · rename_i e
      obtain ⟨rfl, rfl⟩ := e
      obtain ⟨b, h1, h2⟩ := hr
      exact ⟨b, (hs s (by simp [AV.sites])).trans h1, h2⟩
    · cases h
  · rename_i f e f' e'
    split at h
    · rename_i hf
      subst hf
      obtain ⟨ad, rfl, hb⟩ := hr
      refine ⟨ad, rfl, ?_⟩
      obtain ⟨k1, k2⟩ := fitVs_ok (w := w) (ok := fun _ => True) h ho
      rcases hb with rfl | ⟨hk, hb⟩
      · left
        cases e' with
        | nil => rfl
        | cons y ys => simp at k1
      · refine .inr ⟨he.K hk, fun q y hy => ?_⟩
        obtain ⟨x, hx, hxy⟩ := k2 q y hy
        obtain ⟨u, hu, hru⟩ := hb q x hx
        exact ⟨u, hu, hxy w _ u (he.rep hru)⟩
    · cases h
  · rename_i g caps g' caps'
    split at h
    · rename_i e
      obtain ⟨rfl, rfl⟩ := e
      exact he.repA hs hr
    · cases h
  · rename_i g xs g' es
    obtain ⟨l, hl', rfl⟩ := Option.map_eq_some_iff.1 h
    obtain ⟨rfl, ho2⟩ := All.cons.1 ho
    · obtain ⟨ps, rfl, hl, hr⟩ := hr
      obtain ⟨k1, k2⟩ := fitVss_ok hl' ho2
      refine ⟨ps, rfl, by rw [hl, k1], fun i e u hi hu => ?_⟩
      have hlt : i < xs.length := by rw [k1]; exact (List.getElem?_eq_some_iff.1 hi).1
      obtain ⟨ad, rfl, hb⟩ := hr i _ u (List.getElem?_eq_getElem hlt) hu
      obtain ⟨q1, q2⟩ := k2 i _ e (List.getElem?_eq_getElem hlt) hi
      refine ⟨ad, rfl, ?_⟩
      rcases hb with hb | ⟨hk, hb⟩
      · left
        cases e with
        | nil => rfl
        | cons y ys => rw [hb] at q1; simp at q1
      · refine .inr ⟨he.K hk, fun q y hy => ?_⟩
        obtain ⟨x, hx, hxy⟩ := q2 q y hy
        obtain ⟨u, hu, hru⟩ := hb q x hx
        exact ⟨u, hu, hxy w _ u (he.rep hru)⟩
  · cases h
theorem fitK_ok (he : Evo σ σ' w w) {c c' : Content} {l : List Prop} {v : Value} (h : fitK c c' = some l) (ho : All l) (hs : ∀ t cs, c' = .box t cs → ∀ s ∈ cs.flatMap CV.sites, σ' s = σ s) (hr : SiteOk base w σ v c) : SiteOk base w σ' v c' := by
  unfold fitK at h
  split at h
  · rename_i t cs t' cs'
    split at h
    · rename_i e
      subst e
      obtain ⟨b, vs, rfl, h1, h2, h3, h4⟩ := hr
      exact ⟨b, vs, rfl, h1, h2, h3, fitCCs_ok he h ho (hs t cs' rfl) h4⟩
    · cases h
  · rename_i e z n g f e' z' n' g' f'
    split at h
    · rename_i hc
      obtain ⟨rfl, rfl, hf⟩ := hc
      cases h
      obtain ⟨rfl, hg⟩ : GE n g n' g' := ho
      obtain ⟨xs, k1, k2, k3, k4⟩ := hr
      refine ⟨xs, k1, k2, fun j hj => (hg j hj).1 ▸ k3 j hj, fun j q x hj hx => ?_⟩
      obtain ⟨y, hy, hyx⟩ := (hg j hj).2 q x hx
      obtain ⟨u, hu, hru⟩ := k4 j q y hj hy
      exact ⟨u, hu, hyx _ _ _ ((he.rep hru).weak (fun e => by subst e; simpa using hf))⟩
    · cases h
  · cases h
    obtain ⟨h1, h2⟩ := ho
    subst h1
    subst h2
    exact hr
  · split at h
    · rename_i hc
      obtain ⟨rfl, rfl⟩ := hc
      cases h
      obtain ⟨h1, h2, h3⟩ := ho
      subst h1
      subst h2
      subst h3
      exact hr
    · cases h
  · cases h
end

theorem fitT_at {T : Nat → AV} : ∀ {L : List (Nat × AV)} {l : List Prop}, fitT T L = some l → All l → ∀ t, look L t = .any ∨ ∃ l', fitAV (T t) (look L t) = some l' ∧ All l'
  | [], l, h, ho, t => .inl rfl
  | (t0, av) :: r, l, h, ho, t => by
    simp only [fitT] at h
    split at h
    · rename_i l1 l2 h1 h2
      cases h
      obtain ⟨ho1, ho2⟩ := All.append.1 ho
      unfold look
      rw [List.lookup_cons]
      by_cases e : t = t0
      · subst e
        simp only [beq_self_eq_true]
        exact .inr ⟨l1, h1, ho1⟩
      · have : (t == t0) = false := by simpa using e
        rw [this]
        exact fitT_at h2 ho2 t
    · cases h
theorem fitH_at {H : Nat → Option Content} : ∀ {L : List (Nat × Content)} {l : List Prop}, fitH H L = some l → All l → ∀ s c, L.lookup s = some c → ∃ k l', H s = some k ∧ fitK k c = some l' ∧ All l'
  | [], l, h, ho, s, c, hc => by simp at hc
  | (s0, c0) :: r, l, h, ho, s, c, hc => by
    simp only [fitH] at h
    split at h
    · rename_i k hk
      split at h
      · rename_i l1 l2 h1 h2
        cases h
        obtain ⟨ho1, ho2⟩ := All.append.1 ho
        rw [List.lookup_cons] at hc
        by_cases e : s = s0
        · subst e
          simp only [beq_self_eq_true, Option.some.injEq] at hc
          subst hc
          exact ⟨k, l1, hk, h1, ho1⟩
        · have : (s == s0) = false := by simpa using e
          rw [this] at hc
          exact fitH_at h2 ho2 s c hc
      · cases h
    · cases h

theorem lookup_mem {α : Type} {L : List (Nat × α)} {s : Nat} {c : α} (h : L.lookup s = some c) : (s, c) ∈ L := by
  induction L with
  | nil => simp at h
  | cons x r ih =>
    obtain ⟨s0, c0⟩ := x
    rw [List.lookup_cons] at h
    split at h
    · rename_i e
      cases h
      have : s = s0 := by simpa using e
      subst this
      simp
    · exact List.mem_cons_of_mem _ (ih h)

theorem Rel.fit {w0 : Base} {N : Nat} {S : FS} {σ : Sig} {a : Act} {w : World} (h : Rel w0 N S σ a w) {T : List (Nat × AV)} {H : List (Nat × Content)} {l l' : List Prop} (hT : fitT S.T T = some l) (hH : fitH S.H H = some l') (ho : All l) (ho' : All l') (hc : closed T H = true) :
    ∃ σ', Rel w0 N (mkFS T H) σ' a w := by
  let σ' : Sig := fun s => if (H.lookup s).isSome then σ s else none
  have hev : Evo σ σ' w w := ⟨Nat.le_refl _, fun _ _ _ => rfl, fun b _ ⟨s, v, hs, hv⟩ => by
    have hs : (if (H.lookup s).isSome then σ s else none) = some v := hs
    split at hs
    · exact ⟨s, v, hs, hv⟩
    · cases hs⟩
  simp only [closed, Bool.and_eq_true] at hc
  obtain ⟨hc1, hc2⟩ := hc
  have hσ : ∀ s, (H.lookup s).isSome = true → σ' s = σ s := fun s hs => if_pos hs
  refine ⟨σ', h.below, h.size, h.defers, fun t => ?_, fun s c hs => ?_, fun s hs => ?_, fun s s' v v' b hs hs' hv hv' => ?_, hev.prot h.prot⟩
  · rcases fitT_at hT ho t with e | ⟨l1, h1, h2⟩
    · show RepA _ _ _ (look T t) _
      rw [e]
      trivial
    · refine fitAV_ok hev h1 h2 (fun s hs => hσ s ?_) (h.tmps t)
      replace hs : s ∈ (look T t).sites := hs
      unfold look at hs
      split at hs
      · rename_i av hav
        have := List.all_eq_true.1 hc1 _ (lookup_mem hav)
        exact List.all_eq_true.1 this s hs
      · simp [AV.sites] at hs
  · replace hs : H.lookup s = some c := hs
    obtain ⟨k, l1, h1, h2, h3⟩ := fitH_at hH ho' s c hs
    obtain ⟨v, hv, hk⟩ := h.sites s k h1
    refine ⟨v, (hσ s (by rw [hs]; rfl)).trans hv, fitK_ok hev h2 h3 (fun t cs e s' hs' => hσ s' ?_) hk⟩
    have := List.all_eq_true.1 hc2 _ (lookup_mem hs)
    subst e
    exact List.all_eq_true.1 this s' hs'
  · replace hs : H.lookup s = none := hs
    exact if_neg (by rw [hs]; simp)
  · have e1 : σ s = some v := by
      have hs : (if (H.lookup s).isSome then σ s else none) = some v := hs
      split at hs
      · exact hs
      · cases hs
    have e2 : σ s' = some v' := by
      have hs : (if (H.lookup s').isSome then σ s' else none) = some v' := hs'
      split at hs
      · exact hs
      · cases hs
    exact h.inj s s' v v' b e1 e2 hv hv'

def selfC : CV → List Prop
  | .p _ x => [VE x x]
  | _ => []
def selfA : AV → List Prop
  | .t (.c x) => selfC x
  | .t (.agg xs) => xs.flatMap selfC
  | .bptr _ e => e.map fun x => VE x x
  | .bfn g es => (g = g) :: es.flatMap fun e => e.map fun x => VE x x
  | _ => []
def selfK : Content → List Prop
  | .box _ cs => cs.flatMap selfC
  | .row _ _ n g _ => [GE n g n g]
  | .iter s p => [s = s, p = p]
  | .set P kt bt n l => [P = P, n = n, l = l]
def selfS (T : List (Nat × AV)) (H : List (Nat × Content)) : List Prop := T.flatMap (fun x => selfA x.2) ++ H.flatMap fun x => selfK x.2
theorem All.flat {α : Type} {f : α → List Prop} (h : ∀ x, All (f x)) : ∀ l : List α, All (l.flatMap f)
  | [] => trivial
  | x :: l => by rw [List.flatMap_cons]; exact All.append.2 ⟨h x, All.flat h l⟩
theorem mapVE : ∀ e : List V, All (e.map fun x => VE x x)
  | [] => trivial
  | y :: ys => by rw [List.map_cons]; exact All.cons.2 ⟨VE.refl y, mapVE ys⟩
theorem selfC_ok : ∀ c, All (selfC c) := fun c => by cases c <;> first | trivial | exact VE.refl _
theorem selfS_ok (T : List (Nat × AV)) (H : List (Nat × Content)) : All (selfS T H) := by
  refine All.append.2 ⟨All.flat (fun x => ?_) T, All.flat (fun x => ?_) H⟩
  · cases x.2 with
    | t y => cases y with
      | c c => exact selfC_ok c
      | agg xs => exact All.flat selfC_ok xs
    | bptr f e => exact mapVE e
    | bfn g es => exact All.cons.2 ⟨rfl, All.flat mapVE es⟩
    | _ => trivial
  · cases x.2 with
    | box t cs => exact All.flat selfC_ok cs
    | row e z n g f => exact GE.refl n g
    | iter s p => exact ⟨rfl, rfl⟩
    | set P kt bt n l => exact ⟨rfl, rfl, rfl⟩
def selfAD : AD → List Prop
  | .c x => [VE x x]
  | .agg xs => xs.map fun x => VE x x
  | .ptr e => e.map fun x => VE x x
  | .fn g es => (g = g) :: es.flatMap fun e => e.map fun x => VE x x
def selfArgs (args : List AD) : List Prop := args.flatMap selfAD
theorem selfArgs_ok (args : List AD) : All (selfArgs args) := All.flat (fun x => by
  cases x with
  | c x => exact VE.refl x
  | agg xs => exact mapVE xs
  | ptr e => exact mapVE e
  | fn g es => exact All.cons.2 ⟨rfl, All.flat mapVE es⟩) args

end Go.Av
