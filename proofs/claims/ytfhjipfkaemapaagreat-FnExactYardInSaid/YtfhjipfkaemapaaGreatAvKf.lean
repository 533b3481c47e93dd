/- What is known, told anew: values, places, contents. -/
import Derived.Test.YtfhjipfkaemapaaGreatAvK
namespace Go.Av
open Go Go.RowKit
set_option linter.unusedVariables false
set_option linter.unusedSimpArgs false
variable {P : Program}
def GEN (n : Nat) (m : Nat → Nat) (g : Nat → Nat → List V) (n' : Nat) (m' : Nat → Nat) (g' : Nat → Nat → List V) : Prop := n = n' ∧ ∀ j, j < n → m j = m' j ∧ ∀ q, q < m j → g j q = g' j q
theorem GEN.refl (n : Nat) (m : Nat → Nat) (g : Nat → Nat → List V) : GEN n m g n m g := ⟨rfl, fun _ _ => ⟨rfl, fun _ _ => rfl⟩⟩
theorem NestOk.re {base : Nat} {w : World} {v : Value} {e ei : TypeId} {n n' : Nat} {m m' : Nat → Nat} {g g' : Nat → Nat → List V} (h : NestOk base w v e ei n m g) (hg : GEN n m g n' m' g') : NestOk base w v e ei n' m' g' := by
 obtain ⟨rfl, hg⟩ := hg
 obtain ⟨hd, us, rfl, h1, h2, h3⟩ := h
 refine ⟨hd, us, rfl, h1, fun j u hu => ?_, h3⟩
 have hj : j < n := by have := (List.getElem?_eq_some_iff.1 hu).1; have := h1.1; omega
 obtain ⟨h4, xs, h5, h6, h7⟩ := h2 j u hu
 obtain ⟨k1, k2⟩ := hg j hj
 refine ⟨h4, xs, k1 ▸ h5, h6, fun q hq => ?_⟩
 rw [← k1] at hq
 rw [← k2 q hq]
 exact h7 q hq
def fitCC : CV → CV → Option (List Prop)
 | .p f x, .p f' y => if !f' || f || isSc x then some [VE x y] else none
 | .h s, .h s' => if s = s' then some [] else none
 | .p _ _, .any => some []
 | .h _, .any => some []
 | .hn s, .hn s' => if s = s' then some [] else none
 | .hn _, .any => some []
 | .hv s x, .hv s' x' => if s = s' then some [x = x'] else none
 | .hv _ _, .any => some []
 | .any, .any => some []
 | _, _ => none
def fitCCs : List CV → List CV → Option (List Prop)
 | [], [] => some []
 | c :: cs, y :: ys => match fitCC c y, fitCCs cs ys with
   | some l, some r => some (l ++ r)
   | _, _ => none
 | _, _ => none
def fitVs : List V → List V → Option (List Prop)
 | [], [] => some []
 | c :: cs, y :: ys => match fitVs cs ys with
   | some r => some (VE c y :: r)
   | _ => none
 | _, _ => none
def fitVss : List (List V) → List (List V) → Option (List Prop)
 | [], [] => some []
 | c :: cs, y :: ys => match fitVs c y, fitVss cs ys with
   | some l, some r => some (l ++ r)
   | _, _ => none
 | _, _ => none
def fitAV : AV → AV → Option (List Prop)
 | .t (.c x), .t (.c y) => fitCC x y
 | .t (.agg xs), .t (.agg ys) => fitCCs xs ys
 | .ptr s off, .ptr s' off' => if s = s' ∧ off = off' then some [] else none
 | .bptr f e, .bptr f' e' => if f = f' then fitVs e e' else none
 | .fn g caps, .fn g' caps' => if g = g' ∧ caps = caps' then some [] else none
 | .bfn g xs, .bfn g' es => (fitVss xs es).map fun l => (g = g') :: l
 | _, _ => none
def fitK : Content → Content → Option (List Prop)
 | .box t cs, .box t' cs' => if t = t' then fitCCs cs cs' else none
 | .row e z n g f, .row e' z' n' g' f' => if e = e' ∧ z = z' ∧ (!f' || f) = true then some [GE n g n' g'] else none
 | .iter s p, .iter s' p' => some [s = s', p = p']
 | .nest e ei n m g, .nest e' ei' n' m' g' => if e = e' ∧ ei = ei' then some [GEN n m g n' m' g'] else none
 | .set P kt bt n l, .set P' kt' bt' n' l' => if kt = kt' ∧ bt = bt' then some [P = P', n = n', l = l'] else none
 | _, _ => none
theorem fitVs_ok {w : World} {ok : Nat → Prop} : ∀ {xs ys : List V} {l : List Prop}, fitVs xs ys = some l → All l → xs.length = ys.length ∧ ∀ (q : Nat) y, ys[q]? = some y → ∃ x, xs[q]? = some x ∧ VE x y
 | [], [], l, h, ho => ⟨rfl, fun q y hy => by simp at hy⟩
 | [], _ :: _, l, h, ho => by simp [fitVs] at h
 | _ :: _, [], l, h, ho => by simp [fitVs] at h
 | x :: xs, y :: ys, l, h, ho => by
   simp only [fitVs] at h
   split at h
   ·rename_i r hr
    cases h
    obtain ⟨h1, h2⟩ := All.cons.1 ho
    obtain ⟨k1, k2⟩ := fitVs_ok (w := w) (ok := ok) hr h2
    refine ⟨by simp [k1], fun q y' hy => ?_⟩
    cases q with
    | zero => simp at hy; subst hy; exact ⟨x, rfl, h1⟩
    | succ q => exact k2 q y' (by simpa using hy)
   ·cases h
theorem fitVss_ok : ∀ {xs ys : List (List V)} {l : List Prop}, fitVss xs ys = some l → All l → xs.length = ys.length ∧ ∀ (i : Nat) x y, xs[i]? = some x → ys[i]? = some y → x.length = y.length ∧ ∀ (q : Nat) v, y[q]? = some v → ∃ u, x[q]? = some u ∧ VE u v
 | [], [], l, h, ho => ⟨rfl, fun q x y hy => by simp at hy⟩
 | [], _ :: _, l, h, ho => by simp [fitVss] at h
 | _ :: _, [], l, h, ho => by simp [fitVss] at h
 | x :: xs, y :: ys, l, h, ho => by
   simp only [fitVss] at h
   split at h
   ·rename_i l1 l2 h1 h2
    cases h
    obtain ⟨ho1, ho2⟩ := All.append.1 ho
    obtain ⟨k1, k2⟩ := fitVss_ok h2 ho2
    have k0 := fitVs_ok (w := default) (ok := fun _ => True) h1 ho1
    refine ⟨by simp [k1], fun i x' y' hx hy => ?_⟩
    cases i with
    | zero => simp at hx hy; subst hx; subst hy; exact k0
    | succ i => exact k2 i x' y' (by simpa using hx) (by simpa using hy)
   ·cases h
section
variable {base : Nat} {w : World} {σ σ' : Sig}
theorem fitCC_ok (he : Evo σ σ' w w) {c c' : CV} {l : List Prop} {v : Value} (h : fitCC c c' = some l) (ho : All l) (hs : ∀ s ∈ c'.sites, σ' s = σ s) (hr : RepC base w σ c v) : RepC base w σ' c' v := by
 unfold fitCC at h
 split at h
 ·rename_i f x f' y
  split at h
  ·rename_i hc
   cases h
   show Rep w _ y v
   refine ho w _ v ?_
   replace hr : Rep w (K base w σ f) x v := hr
   cases x with
   | sc u => cases hr with | sc u h1 => exact .sc _ h1
   | _ =>
     refine (he.rep hr).weak (fun e => ?_)
     subst e
     simpa [isSc] using hc
  ·cases h
 ·rename_i s s'
  split at h
  ·rename_i e
   subst e
   exact ⟨(hs s (by simp [CV.sites])).trans hr.1, hr.2⟩
  ·cases h
 ·exact hr.one
 ·exact hr.one
 ·rename_i s s'
  split at h
  ·rename_i e
   subst e
   obtain ⟨us, h1⟩ := hr.1
   exact ⟨⟨us, (hs s (by simp [CV.sites])).trans h1⟩, hr.2⟩
  ·cases h
 ·exact hr.one
 ·rename_i s x s' x'
  split at h
  ·rename_i e
   subst e
   cases h
   have e2 : x = x' := ho
   subst e2
   exact ⟨(hs s (by simp [CV.sites])).trans hr.1, hr.2⟩
  ·cases h
 ·exact hr.one
 ·exact hr
 ·cases h
theorem fitCCs_ok (he : Evo σ σ' w w) : ∀ {cs cs' : List CV} {l : List Prop} {vs : List Value}, fitCCs cs cs' = some l → All l → (∀ s ∈ cs'.flatMap CV.sites, σ' s = σ s) → RepCs base w σ cs vs → RepCs base w σ' cs' vs
 | [], [], l, vs, h, ho, hs, hr => ⟨hr.1, fun i c v hc => by simp at hc⟩
 | [], _ :: _, l, vs, h, ho, hs, hr => by simp [fitCCs] at h
 | _ :: _, [], l, vs, h, ho, hs, hr => by simp [fitCCs] at h
 | c :: cs, y :: ys, l, [], h, ho, hs, hr => by have := hr.1; simp at this
 | c :: cs, y :: ys, l, v :: vs, h, ho, hs, hr => by
   simp only [fitCCs] at h
   split at h
   ·rename_i l1 l2 h1 h2
    cases h
    obtain ⟨ho1, ho2⟩ := All.append.1 ho
    have hr' : RepCs base w σ cs vs := ⟨by have := hr.1; simpa using this, fun i c v hc hv => hr.2 (i + 1) c v (by simpa using hc) (by simpa using hv)⟩
    have k := fitCCs_ok he h2 ho2 (fun s hs' => hs s (by rw [List.flatMap_cons]; exact List.mem_append_right _ hs')) hr'
    have k0 := fitCC_ok he h1 ho1 (fun s hs' => hs s (by rw [List.flatMap_cons]; exact List.mem_append_left _ hs')) (hr.2 0 c v rfl rfl)
    refine ⟨by simp [k.1], fun i c' v' hc hv => ?_⟩
    cases i with
    | zero => simp at hc hv; subst hc; subst hv; exact k0
    | succ i => exact k.2 i c' v' (by simpa using hc) (by simpa using hv)
   ·cases h
theorem fitAV_ok (he : Evo σ σ' w w) {c c' : AV} {l : List Prop} {v : Value} (h : fitAV c c' = some l) (ho : All l) (hs : ∀ s ∈ c'.sites, σ' s = σ s) (hr : RepA base w σ c v) : RepA base w σ' c' v := by
 unfold fitAV at h
 split at h
 ·exact fitCC_ok he h ho hs hr
 ·obtain ⟨vs, rfl, hr⟩ := hr
  exact ⟨vs, rfl, fitCCs_ok he h ho hs hr⟩
 ·rename_i s off s' off'
  split at h
  ·rename_i e
   obtain ⟨rfl, rfl⟩ := e
   obtain ⟨b, h1, h2⟩ := hr
   exact ⟨b, (hs s (by simp [AV.sites])).trans h1, h2⟩
  ·cases h
 ·rename_i f e f' e'
  split at h
  ·rename_i hf
   subst hf
   obtain ⟨ad, rfl, hb⟩ := hr
   refine ⟨ad, rfl, ?_⟩
   obtain ⟨k1, k2⟩ := fitVs_ok (w := w) (ok := fun _ => True) h ho
   rcases hb with rfl | ⟨hk, hb⟩
   ·left
    cases e' with
    | nil => rfl
    | cons y ys => simp at k1
   ·refine .inr ⟨he.K hk, fun q y hy => ?_⟩
    obtain ⟨x, hx, hxy⟩ := k2 q y hy
    obtain ⟨u, hu, hru⟩ := hb q x hx
    exact ⟨u, hu, hxy w _ u (he.rep hru)⟩
  ·cases h
 ·rename_i g caps g' caps'
  split at h
  ·rename_i e
   obtain ⟨rfl, rfl⟩ := e
   exact he.repA hs hr
  ·cases h
 ·rename_i g xs g' es
  obtain ⟨l, hl', rfl⟩ := Option.map_eq_some_iff.1 h
  obtain ⟨rfl, ho2⟩ := All.cons.1 ho
  ·obtain ⟨ps, rfl, hl, hr⟩ := hr
   obtain ⟨k1, k2⟩ := fitVss_ok hl' ho2
   refine ⟨ps, rfl, by rw [hl, k1], fun i e u hi hu => ?_⟩
   have hlt : i < xs.length := by rw [k1]; exact (List.getElem?_eq_some_iff.1 hi).1
   obtain ⟨ad, rfl, hb⟩ := hr i _ u (List.getElem?_eq_getElem hlt) hu
   obtain ⟨q1, q2⟩ := k2 i _ e (List.getElem?_eq_getElem hlt) hi
   refine ⟨ad, rfl, ?_⟩
   rcases hb with hb | ⟨hk, hb⟩
   ·left
    cases e with
    | nil => rfl
    | cons y ys => rw [hb] at q1; simp at q1
   ·refine .inr ⟨he.K hk, fun q y hy => ?_⟩
    obtain ⟨x, hx, hxy⟩ := q2 q y hy
    obtain ⟨u, hu, hru⟩ := hb q x hx
    exact ⟨u, hu, hxy w _ u (he.rep hru)⟩
 ·cases h
theorem fitK_ok (he : Evo σ σ' w w) {c c' : Content} {l : List Prop} {v : Value} (h : fitK c c' = some l) (ho : All l) (hs : ∀ t cs, c' = .box t cs → ∀ s ∈ cs.flatMap CV.sites, σ' s = σ s) (hr : SiteOk base w σ v c) : SiteOk base w σ' v c' := by
 unfold fitK at h
 split at h
 ·rename_i t cs t' cs'
  split at h
  ·rename_i e
   subst e
   obtain ⟨b, vs, rfl, h1, h2, h3, h4⟩ := hr
   exact ⟨b, vs, rfl, h1, h2, h3, fitCCs_ok he h ho (hs t cs' rfl) h4⟩
  ·cases h
 ·rename_i e z n g f e' z' n' g' f'
  split at h
  ·rename_i hc
   obtain ⟨rfl, rfl, hf⟩ := hc
   cases h
   obtain ⟨rfl, hg⟩ : GE n g n' g' := ho
   obtain ⟨xs, k1, k2, k3, k4⟩ := hr
   refine ⟨xs, k1, k2, fun j hj => (hg j hj).1 ▸ k3 j hj, fun j q x hj hx => ?_⟩
   obtain ⟨y, hy, hyx⟩ := (hg j hj).2 q x hx
   obtain ⟨u, hu, hru⟩ := k4 j q y hj hy
   exact ⟨u, hu, hyx _ _ _ ((he.rep hru).weak (fun e => by subst e; simpa using hf))⟩
  ·cases h
 ·cases h
  obtain ⟨h1, h2⟩ := ho
  subst h1
  subst h2
  exact hr
 ·split at h
  ·rename_i hc
   obtain ⟨rfl, rfl⟩ := hc
   cases h
   exact NestOk.re hr ho
  ·cases h
 ·split at h
  ·rename_i hc
   obtain ⟨rfl, rfl⟩ := hc
   cases h
   obtain ⟨h1, h2, h3⟩ := ho
   subst h1
   subst h2
   subst h3
   exact hr
  ·cases h
 ·cases h
end
end Go.Av