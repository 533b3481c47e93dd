/- Calls. -/
import Derived.Test.YtfhjipfkaemapaaGreatAvJ
namespace Go.Av
open Go Go.RowKit
set_option linter.unusedVariables false
set_option linter.unusedSimpArgs false
def Callable (P : Program) (f : FuncId) : Prop := ∃ fn, P.funcs[f]? = some fn ∧ (fn.name == "runtime.NumGoroutine") = false ∧ fn.body.isSome = true
structure Con (P : Program) where
 f : FuncId
 args : List AD
 res : List RD
 ok : VCalls P f args res
 go : Callable P f
def fitC (H : Nat → Option Content) : CV → V → Option (List Prop)
 | .p _ x, y => some [VE x y]
 | .h s, y => match H s with
   | some (.row e z n g fr) => some [VE (.row z n g) y]
   | _ => none
 | .hn s, y => match H s with
   | some (.nest e ei n m g) => some [VE (.row 1 n fun j => [.row 1 (m j) (g j)]) y]
   | _ => none
 | .any, _ => none
 | .hv _ _, _ => none
def fitCs (H : Nat → Option Content) : List CV → List V → Option (List Prop)
 | [], [] => some []
 | c :: cs, y :: ys => match fitC H c y, fitCs H cs ys with
   | some l, some r => some (l ++ r)
   | _, _ => none
 | _, _ => none
def fitP (H : Nat → Option Content) (s off : Nat) (e : List V) : Option (List Prop) := match H s with
 | some (.box _ cs) => fitCs H ((cs.drop off).take e.length) e
 | _ => none
def fitPs (H : Nat → Option Content) : List (Nat × Nat) → List (List V) → Option (List Prop)
 | [], [] => some []
 | c :: cs, e :: es => match fitP H c.1 c.2 e, fitPs H cs es with
   | some l, some r => some (l ++ r)
   | _, _ => none
 | _, _ => none
def fitBs (H : Nat → Option Content) : List (List V) → List (List V) → Option (List Prop)
 | [], [] => some []
 | x :: xs, e :: es => match fitCs H ((x.take e.length).map (.p false)) e, fitBs H xs es with
   | some l, some r => some (l ++ r)
   | _, _ => none
 | _, _ => none
def fitA (H : Nat → Option Content) : AV → AD → Option (List Prop)
 | .t (.c x), .c y => fitC H x y
 | .t (.agg xs), .agg ys => fitCs H xs ys
 | .ptr s off, .ptr e => fitP H s off e
 | .bptr fr xs, .ptr e => fitCs H ((xs.take e.length).map (.p fr)) e
 | .fn g caps, .fn g' es => (fitPs H caps es).map fun l => (g = g') :: l
 | .bfn g xs, .fn g' es => (fitBs H xs es).map fun l => (g = g') :: l
 | .nhd s j, .c y => match H s with
   | some (.nest e ei n m g) => some [VE (.row 1 (m j) (g j)) y]
   | _ => none
 | _, _ => none
def fitAs (H : Nat → Option Content) : List AV → List AD → Option (List Prop)
 | [], [] => some []
 | x :: xs, d :: ds => match fitA H x d, fitAs H xs ds with
   | some l, some r => some (l ++ r)
   | _, _ => none
 | _, _ => none
section
variable {P : Program} {base : Nat} {w : World} {σ : Sig} {H : Nat → Option Content}
theorem site_row_rep {e z n : Nat} {g : Nat → List V} {fr : Bool} {v : Value} (h : SiteOk base w σ v (.row e z n g fr)) : Rep w (· < w.heap.size) (.row z n g) v := by
 obtain ⟨xs, h1, h2, h3, h4⟩ := h
 rcases Nat.eq_zero_or_pos n with rfl | hn
 ·rcases h1.2 with ⟨rfl, _⟩ | ⟨g', cap, cur, rfl, _⟩
  ·exact .none _ _ _ _ (fun _ => rfl)
  ·exact .none _ _ _ _ (fun e => by cases e)
 ·obtain ⟨b, cap, rfl, hb, hlt⟩ := h1.form hn
  have hcap : n ≤ cap := by
   rcases h1.2 with ⟨e, _⟩ | ⟨g', cap', cur, e, _, _, hle, _⟩
   ·cases e
   ·simp only [Value.slice.injEq] at e; omega
  have hlen : ∀ j q, j < n → q < z → j * z + q < n * z := fun j q hj hq => by
   have : j * z + z ≤ n * z := by rw [← Nat.succ_mul]; exact Nat.mul_le_mul_right _ hj
   omega
  refine .row z n g ⟨b, 0, none⟩ cap (fun j q => xs.getD (j * z + q) undef) hn hcap hlt h3 (fun j q hj hq => ?_) (fun j q y hj hy => ?_)
  ·rw [Addr.add_lit, Nat.zero_add, h1.cellAt _ (hlen j q hj hq), List.getD_eq_getElem?_getD, List.getElem?_eq_getElem (by rw [h1.1]; exact hlen j q hj hq)]
   rfl
  ·obtain ⟨u, hu, hr⟩ := h4 j q y hj hy
   rw [List.getD_eq_getElem?_getD, hu]
   exact hr.mono (fun _ _ => rfl) (fun b hb => hb.1)
theorem site_nest_rep {e ei n : Nat} {m : Nat → Nat} {g : Nat → Nat → List V} {hd : Value} {us : List Value} (h : NestOk base w (.tuple (hd :: us).toArray) e ei n m g) : Rep w (· < w.heap.size) (.row 1 n fun j => [.row 1 (m j) (g j)]) hd := by
 obtain ⟨hd', us', e1, h1, h2, h3, h4⟩ := h
 have e1 : hd :: us = hd' :: us' := by simpa using e1
 obtain ⟨rfl, rfl⟩ := List.cons.inj e1
 refine site_row_rep (σ := fun _ => none) (fr := false) (base := base) (e := e) ⟨us, h1, fun u hu => ?_, fun _ _ => rfl, fun j q x hj hx => ?_⟩
 ·obtain ⟨j, hj, rfl⟩ := List.getElem_of_mem hu
  exact (h2 j _ (List.getElem?_eq_getElem hj)).1
 ·cases q with
  | succ q => simp at hx
  | zero =>
    simp at hx
    subst hx
    have hl : j < us.length := by rw [h1.1]; omega
    refine ⟨us[j], by rw [Nat.mul_one, Nat.add_zero]; exact List.getElem?_eq_getElem hl, ?_⟩
    obtain ⟨_, xs, k1, k2, k3⟩ := h2 j _ (List.getElem?_eq_getElem hl)
    have := site_row_rep (σ := fun _ => none) (fr := true) (base := base) (w := w) (e := ei) (z := 1) (n := m j) (g := g j) (v := us[j]) ⟨xs, k1, k2, fun q hq => by obtain ⟨x, hx, _⟩ := k3 q hq; rw [hx]; rfl, fun q i x hq hx => by
     obtain ⟨y, hy, hy2⟩ := k3 q hq
     rw [hy] at hx
     cases i with
     | succ i => simp at hx
     | zero =>
       simp at hx
       subst hx
       exact ⟨y, by rw [Nat.mul_one, Nat.add_zero]; exact hy2, .sc y (k2 y (List.mem_of_getElem? hy2))⟩⟩
    exact this.mono (fun _ _ => rfl) (fun b hb => ⟨hb, fun ⟨_, _, h, _⟩ => (by cases h), fun h => (by cases h)⟩)
theorem site_inner_rep {e ei n : Nat} {m : Nat → Nat} {g : Nat → Nat → List V} {hd u : Value} {us : List Value} {j : Nat} (h : NestOk base w (.tuple (hd :: us).toArray) e ei n m g) (hu : us[j]? = some u) : Rep w (· < w.heap.size) (.row 1 (m j) (g j)) u := by
 obtain ⟨hd', us', e1, h1, h2, h3, h4⟩ := h
 have e1 : hd :: us = hd' :: us' := by simpa using e1
 obtain ⟨rfl, rfl⟩ := List.cons.inj e1
 obtain ⟨_, xs, k1, k2, k3⟩ := h2 j u hu
 refine site_row_rep (σ := fun _ => none) (fr := false) (base := base) (e := ei) ⟨xs, k1, k2, fun q hq => by obtain ⟨x, hx, _⟩ := k3 q hq; rw [hx]; rfl, fun q i x hq hx => ?_⟩
 obtain ⟨y, hy, hy2⟩ := k3 q hq
 rw [hy] at hx
 cases i with
 | succ i => simp at hx
 | zero =>
   simp at hx
   subst hx
   exact ⟨y, by rw [Nat.mul_one, Nat.add_zero]; exact hy2, .sc y (k2 y (List.mem_of_getElem? hy2))⟩
theorem fitC_ok (hH : ∀ s c, H s = some c → ∃ v, σ s = some v ∧ SiteOk base w σ v c) {c : CV} {y : V} {obs : List Prop} {v : Value} (h : fitC H c y = some obs) (ho : All obs) (hr : RepC base w σ c v) : Rep w (· < w.heap.size) y v := by
 cases c with
 | any => cases h
 | p fr x =>
   simp only [fitC, Option.some.injEq] at h
   subst h
   exact ho w _ v (hr.mono (fun _ _ => rfl) (fun b hb => hb.1))
 | h s =>
   simp only [fitC] at h
   split at h
   ·rename_i e z n g fr hs
    simp only [Option.some.injEq] at h
    subst h
    obtain ⟨v', h1, h2⟩ := hH s _ hs
    have : v = v' := by have := hr.1; rw [h1] at this; exact (Option.some.inj this).symm
    subst this
    exact ho w _ v (site_row_rep h2)
   ·cases h
 | hn s =>
   simp only [fitC] at h
   split at h
   ·rename_i e ei n m g hs
    simp only [Option.some.injEq] at h
    subst h
    obtain ⟨v', h1, h2⟩ := hH s _ hs
    obtain ⟨us, h3⟩ := hr.1
    rw [h1] at h3
    cases h3
    exact ho w _ v (site_nest_rep h2)
   ·cases h
 | hv s x => cases h
theorem fitCs_ok (hH : ∀ s c, H s = some c → ∃ v, σ s = some v ∧ SiteOk base w σ v c) : ∀ {cs : List CV} {ys : List V} {obs : List Prop} {vs : List Value}, fitCs H cs ys = some obs → All obs → RepCs base w σ cs vs →
  ys.length = vs.length ∧ ∀ (i : Nat) y v, ys[i]? = some y → vs[i]? = some v → Rep w (· < w.heap.size) y v
 | [], [], obs, vs, h, ho, hr => ⟨hr.1, fun i y v hy => by simp at hy⟩
 | [], _ :: _, obs, vs, h, ho, hr => by simp [fitCs] at h
 | _ :: _, [], obs, vs, h, ho, hr => by simp [fitCs] at h
 | c :: cs, y :: ys, obs, [], h, ho, hr => by have := hr.1; simp at this
 | c :: cs, y :: ys, obs, v :: vs, h, ho, hr => by
   simp only [fitCs] at h
   split at h
   ·rename_i l r h1 h2
    cases h
    obtain ⟨ho1, ho2⟩ := All.append.1 ho
    have hr' : RepCs base w σ cs vs := ⟨by have := hr.1; simpa using this, fun i c v hc hv => hr.2 (i + 1) c v (by simpa using hc) (by simpa using hv)⟩
    obtain ⟨k1, k2⟩ := fitCs_ok hH h2 ho2 hr'
    have k0 := fitC_ok hH h1 ho1 (hr.2 0 c v rfl rfl)
    refine ⟨by simp [k1], fun i y' v' hy hv => ?_⟩
    cases i with
    | zero => simp at hy hv; subst hy; subst hv; exact k0
    | succ i => exact k2 i y' v' (by simpa using hy) (by simpa using hv)
   ·cases h
theorem fitP_ok (hH : ∀ s c, H s = some c → ∃ v, σ s = some v ∧ SiteOk base w σ v c) {s off : Nat} {e : List V} {obs : List Prop} {v : Value} (h : fitP H s off e = some obs) (ho : All obs)
  (hr : ∃ b, σ s = some (.pointer (some ⟨b, 0, none⟩)) ∧ v = .pointer (some ⟨b, off, none⟩)) : PtrOk w e v := by
 unfold fitP at h
 split at h
 ·rename_i t cs hs
  obtain ⟨b, h1, rfl⟩ := hr
  obtain ⟨v', h2, b', vs, rfl, h3, h4, h5, h6⟩ := hH s _ hs
  rw [h1] at h2
  simp only [Option.some.injEq, Value.pointer.injEq, Addr.mk.injEq, and_true] at h2
  subst h2
  obtain ⟨k1, k2⟩ := fitCs_ok hH h ho ((h6.drop off).take e.length)
  refine ⟨_, rfl, .inr ⟨(Array.getElem?_eq_some_iff.1 h4).1, fun q x hq => ?_⟩⟩
  have hlt : q < ((vs.toList.drop off).take e.length).length := by rw [← k1]; exact (List.getElem?_eq_some_iff.1 hq).1
  have hv := List.getElem?_eq_getElem hlt
  refine ⟨_, ?_, k2 q x _ hq hv⟩
  rw [Addr.add_lit, cell_of_row w b _ vs t _ h4]
  have h7 := hv
  rw [List.getElem?_take] at h7
  split at h7
  ·simp
  ·cases h7
 ·cases h
theorem fitPs_ok (hH : ∀ s c, H s = some c → ∃ v, σ s = some v ∧ SiteOk base w σ v c) : ∀ {caps : List (Nat × Nat)} {es : List (List V)} {obs : List Prop} {ps : List Value}, fitPs H caps es = some obs → All obs → ps.length = caps.length →
  (∀ (i : Nat) c u, caps[i]? = some c → ps[i]? = some u → ∃ b, σ c.1 = some (.pointer (some ⟨b, 0, none⟩)) ∧ u = .pointer (some ⟨b, c.2, none⟩)) →
  es.length = ps.length ∧ ∀ (i : Nat) e u, es[i]? = some e → ps[i]? = some u → PtrOk w e u
 | [], [], obs, ps, h, ho, hl, hr => ⟨by simpa using hl.symm, fun i y v hy => by simp at hy⟩
 | [], _ :: _, obs, ps, h, ho, hl, hr => by simp [fitPs] at h
 | _ :: _, [], obs, ps, h, ho, hl, hr => by simp [fitPs] at h
 | c :: cs, y :: ys, obs, [], h, ho, hl, hr => by simp at hl
 | c :: cs, y :: ys, obs, v :: vs, h, ho, hl, hr => by
   simp only [fitPs] at h
   split at h
   ·rename_i l r h1 h2
    cases h
    obtain ⟨ho1, ho2⟩ := All.append.1 ho
    obtain ⟨k1, k2⟩ := fitPs_ok hH h2 ho2 (by simpa using hl) (fun i c u hc hu => hr (i + 1) c u (by simpa using hc) (by simpa using hu))
    have k0 := fitP_ok hH h1 ho1 (hr 0 c v rfl rfl)
    refine ⟨by simp [k1], fun i y' v' hy hv => ?_⟩
    cases i with
    | zero => simp at hy hv; subst hy; subst hv; exact k0
    | succ i => exact k2 i y' v' (by simpa using hy) (by simpa using hv)
   ·cases h
theorem fitB_ok (hH : ∀ s c, H s = some c → ∃ v, σ s = some v ∧ SiteOk base w σ v c) {fr : Bool} {xs e : List V} {obs : List Prop} {v : Value} (h : fitCs H ((xs.take e.length).map (.p fr)) e = some obs) (ho : All obs)
  (hr : ∃ ad, v = .pointer (some ad) ∧ RepB base w σ fr xs ad) : PtrOk w e v := by
 obtain ⟨ad, rfl, hb⟩ := hr
 refine ⟨ad, rfl, ?_⟩
 rcases hb with rfl | ⟨hk, hb⟩
 ·cases e with
  | nil => exact .inl rfl
  | cons y ys => simp [fitCs] at h
 ·refine .inr ⟨hk.1, fun q y hq => ?_⟩
  obtain ⟨us, hl, hu⟩ := choose_list xs hb
  have hrr : RepCs base w σ ((xs.take e.length).map (.p fr)) (us.take e.length) := by
   refine ⟨by simp [hl], fun i c v hc hv => ?_⟩
   rw [List.getElem?_map] at hc
   obtain ⟨y, hy, rfl⟩ := Option.map_eq_some_iff.1 hc
   rw [List.getElem?_take] at hy hv
   split at hy
   ·rename_i hi; rw [if_pos hi] at hv; exact (hu i y v hy hv).2
   ·cases hy
  obtain ⟨k1, k2⟩ := fitCs_ok hH h ho hrr
  have hlt : q < (us.take e.length).length := by rw [← k1]; exact (List.getElem?_eq_some_iff.1 hq).1
  have hv := List.getElem?_eq_getElem hlt
  refine ⟨_, ?_, k2 q y _ hq hv⟩
  have h7 := hv
  rw [List.getElem?_take] at h7
  split at h7
  ·have hx : q < xs.length := by rw [← hl]; exact (List.getElem?_eq_some_iff.1 h7).1
   exact (hu q _ _ (List.getElem?_eq_getElem hx) h7).1
  ·cases h7
theorem fitBs_ok (hH : ∀ s c, H s = some c → ∃ v, σ s = some v ∧ SiteOk base w σ v c) : ∀ {xs es : List (List V)} {obs : List Prop} {ps : List Value}, fitBs H xs es = some obs → All obs → ps.length = xs.length →
  (∀ (i : Nat) e u, xs[i]? = some e → ps[i]? = some u → ∃ ad, u = .pointer (some ad) ∧ RepB base w σ false e ad) →
  es.length = ps.length ∧ ∀ (i : Nat) e u, es[i]? = some e → ps[i]? = some u → PtrOk w e u
 | [], [], obs, ps, h, ho, hl, hr => ⟨by simpa using hl.symm, fun i y v hy => by simp at hy⟩
 | [], _ :: _, obs, ps, h, ho, hl, hr => by simp [fitBs] at h
 | _ :: _, [], obs, ps, h, ho, hl, hr => by simp [fitBs] at h
 | c :: cs, y :: ys, obs, [], h, ho, hl, hr => by simp at hl
 | c :: cs, y :: ys, obs, v :: vs, h, ho, hl, hr => by
   simp only [fitBs] at h
   split at h
   ·rename_i l r h1 h2
    cases h
    obtain ⟨ho1, ho2⟩ := All.append.1 ho
    obtain ⟨k1, k2⟩ := fitBs_ok hH h2 ho2 (by simpa using hl) (fun i c u hc hu => hr (i + 1) c u (by simpa using hc) (by simpa using hu))
    have k0 := fitB_ok hH h1 ho1 (hr 0 c v rfl rfl)
    refine ⟨by simp [k1], fun i y' v' hy hv => ?_⟩
    cases i with
    | zero => simp at hy hv; subst hy; subst hv; exact k0
    | succ i => exact k2 i y' v' (by simpa using hy) (by simpa using hv)
   ·cases h
theorem fitA_ok (hH : ∀ s c, H s = some c → ∃ v, σ s = some v ∧ SiteOk base w σ v c) {x : AV} {d : AD} {obs : List Prop} {v : Value} (h : fitA H x d = some obs) (ho : All obs) (hr : RepA base w σ x v) : ArgOk w d v := by
 unfold fitA at h
 split at h
 ·exact fitC_ok hH h ho hr
 ·obtain ⟨vs, rfl, hr⟩ := hr
  obtain ⟨k1, k2⟩ := fitCs_ok hH h ho hr
  exact ⟨vs, rfl, k1, k2⟩
 ·exact fitP_ok hH h ho hr
 ·exact fitB_ok hH h ho hr
 ·rename_i g caps g' es
  obtain ⟨l, hl', rfl⟩ := Option.map_eq_some_iff.1 h
  obtain ⟨rfl, ho2⟩ := All.cons.1 ho
  obtain ⟨ps, rfl, hl, hr⟩ := hr
  obtain ⟨k1, k2⟩ := fitPs_ok hH hl' ho2 hl hr
  exact ⟨ps, rfl, k1, k2⟩
 ·rename_i g caps g' es
  obtain ⟨l, hl', rfl⟩ := Option.map_eq_some_iff.1 h
  obtain ⟨rfl, ho2⟩ := All.cons.1 ho
  obtain ⟨ps, rfl, hl, hr⟩ := hr
  obtain ⟨k1, k2⟩ := fitBs_ok hH hl' ho2 hl hr
  exact ⟨ps, rfl, k1, k2⟩
 ·rename_i s' j y
  split at h
  ·rename_i e ei n m g hs
   simp only [Option.some.injEq] at h
   subst h
   obtain ⟨v', h1, h2⟩ := hH s' _ hs
   obtain ⟨hd, us, h3, h4, _⟩ := hr
   rw [h1] at h3
   cases h3
   exact ho w _ v (site_inner_rep h2 h4)
  ·cases h
 ·cases h
theorem fitAs_ok (hH : ∀ s c, H s = some c → ∃ v, σ s = some v ∧ SiteOk base w σ v c) : ∀ {xs : List AV} {ds : List AD} {obs : List Prop} {vs : List Value}, fitAs H xs ds = some obs → All obs → xs.length = vs.length →
  (∀ (i : Nat) x v, xs[i]? = some x → vs[i]? = some v → RepA base w σ x v) → ds.length = vs.length ∧ ∀ (i : Nat) d v, ds[i]? = some d → vs[i]? = some v → ArgOk w d v
 | [], [], obs, vs, h, ho, hl, hr => ⟨hl, fun i y v hy => by simp at hy⟩
 | [], _ :: _, obs, vs, h, ho, hl, hr => by simp [fitAs] at h
 | _ :: _, [], obs, vs, h, ho, hl, hr => by simp [fitAs] at h
 | c :: cs, y :: ys, obs, [], h, ho, hl, hr => by simp at hl
 | c :: cs, y :: ys, obs, v :: vs, h, ho, hl, hr => by
   simp only [fitAs] at h
   split at h
   ·rename_i l r h1 h2
    cases h
    obtain ⟨ho1, ho2⟩ := All.append.1 ho
    obtain ⟨k1, k2⟩ := fitAs_ok hH h2 ho2 (by simpa using hl) (fun i c u hc hu => hr (i + 1) c u (by simpa using hc) (by simpa using hu))
    have k0 := fitA_ok hH h1 ho1 (hr 0 c v rfl rfl)
    refine ⟨by simp [k1], fun i y' v' hy hv => ?_⟩
    cases i with
    | zero => simp at hy hv; subst hy; subst hv; exact k0
    | succ i => exact k2 i y' v' (by simpa using hy) (by simpa using hv)
   ·cases h
end
def resC (d i : Nat) : RC → CV
 | .p x => .p true x
 | .any => .any
 | .own _ _ _ _ => .h (siteOf d i)
 | .ownN _ _ _ _ _ => .hn (siteOf d i)
def conOf : RC → Content
 | .p _ => .row 0 0 0 (fun _ => []) true
 | .any => .row 0 0 0 (fun _ => []) true
 | .own e z n g => .row e z n g true
 | .ownN e ei n m g => .nest e ei n m g
def resCs (d : Nat) : Nat → List RC → List CV
 | _, [] => []
 | i, r :: rs => resC d i r :: resCs d (i + 1) rs
def resD (d i : Nat) : RD → TV
 | .c r => .c (resC d i r)
 | .agg rs => .agg (resCs d i rs)
def resDs (d : Nat) : Nat → List RD → List TV
 | _, [] => []
 | i, r :: rs => resD d i r :: resDs d (i + r.cells.length) rs
def resNews (d : Nat) : Nat → List RC → List (Nat × Content)
 | _, [] => []
 | i, .p _ :: rs => resNews d (i + 1) rs
 | i, .any :: rs => resNews d (i + 1) rs
 | i, .own e z n g :: rs => (siteOf d i, .row e z n g true) :: resNews d (i + 1) rs
 | i, .ownN e ei n m g :: rs => (siteOf d i, .nest e ei n m g) :: resNews d (i + 1) rs
def resEff (d : Nat) (rds : List RD) : Eff := ⟨match resDs d 0 rds with
 | [t] => .t t
 | ts => .tup ts, resNews d 0 (rds.flatMap RD.cells)⟩
theorem resNews_own (d k : Nat) (r : RC) (rs : List RC) (h : r.isOwn = true) : resNews d k (r :: rs) = (siteOf d k, conOf r) :: resNews d (k + 1) rs := by
 cases r <;> first | rfl | cases h
theorem resCs_get (d : Nat) : ∀ (rs : List RC) (k i : Nat), (resCs d k rs)[i]? = (rs[i]?).map (resC d (k + i))
 | [], k, i => by simp [resCs]
 | r :: rs, k, 0 => by simp [resCs]
 | r :: rs, k, i + 1 => by
   simp only [resCs, List.getElem?_cons_succ]
   rw [resCs_get d rs (k + 1) i]
   congr 2
   omega
theorem resCs_len (d : Nat) : ∀ (rs : List RC) (k : Nat), (resCs d k rs).length = rs.length
 | [], k => rfl
 | r :: rs, k => by simp [resCs, resCs_len d rs (k + 1)]
theorem resNews_lookup (d : Nat) : ∀ (rs : List RC) (k s : Nat) (c : Content), (resNews d k rs).lookup s = some c → ∃ (i : Nat) (r : RC), rs[i]? = some r ∧ r.isOwn = true ∧ s = siteOf d (k + i) ∧ c = conOf r
 | [], k, s, c, h => by simp [resNews] at h
 | r :: rs, k, s, c, h => by
   have next : (resNews d (k + 1) rs).lookup s = some c → ∃ (i : Nat) (r' : RC), (r :: rs)[i]? = some r' ∧ r'.isOwn = true ∧ s = siteOf d (k + i) ∧ c = conOf r' := fun h => by
    obtain ⟨i, r', h1, h2, h3, h4⟩ := resNews_lookup d rs (k + 1) s c h
    exact ⟨i + 1, r', by simpa using h1, h2, by rw [h3]; unfold siteOf; omega, h4⟩
   cases ho : r.isOwn with
   | false =>
     cases r with
     | p x => exact next h
     | any => exact next h
     | _ => cases ho
   | true =>
     rw [resNews_own d k r rs ho, List.lookup_cons] at h
     split at h
     ·rename_i he
      cases h
      exact ⟨0, r, rfl, ho, by simpa using he, rfl⟩
     ·exact next h
theorem resNews_at (d : Nat) : ∀ (rs : List RC) (k i : Nat) (r : RC), rs[i]? = some r → r.isOwn = true → (resNews d k rs).lookup (siteOf d (k + i)) ≠ none
 | [], k, i, r, h, ho => by simp at h
 | r :: rs, k, 0, r', h, ho => by
   simp at h
   subst h
   rw [resNews_own d k r rs ho]
   simp
 | r :: rs, k, i + 1, r', h, ho => by
   have h' := resNews_at d rs (k + 1) i r' (by simpa using h) ho
   have e1 : k + 1 + i = k + (i + 1) := by omega
   rw [e1] at h'
   cases ho2 : r.isOwn with
   | false =>
     cases r with
     | p x => exact h'
     | any => exact h'
     | _ => cases ho2
   | true =>
     rw [resNews_own d k r rs ho2, List.lookup_cons]
     split
     ·simp
     ·exact h'
theorem resEff_grow {base : Nat} {σ : Sig} {w w' : World} {d : Nat} {rds : List RD} {vs us : List Value} (hbase : base ≤ w.heap.size) (hb : Below w.heap.size w w') (hr : ResOk w.heap.size w' rds vs us)
  (hlv : ∀ b, Live σ b → b < w.heap.size) (hfree : ∀ s, (resNews d 0 (rds.flatMap RD.cells)).lookup s ≠ none → σ s = none) :
  ∃ σ', Grow base σ σ' w w' (resNews d 0 (rds.flatMap RD.cells)) ∧ RepA base w' σ' (resEff d rds).av (one vs) := by
 generalize hcs : rds.flatMap RD.cells = cs at *
 have hcells := hr.cells
 have hinj := hr.inj
 rw [hcs] at hcells hinj
 let σ' : Sig := fun s => match (resNews d 0 cs).lookup s with
  | some _ => us[s - d * 64]?
  | none => σ s
 have hul : ∀ (ts : List RD) (vs us : List Value), Shapes ts vs us → (ts.flatMap RD.cells).length = us.length ∧ ts.length = vs.length := by
  intro ts vs us h
  induction h with
  | nil => exact ⟨rfl, rfl⟩
  | cons h hs ih =>
    cases h with
    | c x v => simp [RD.cells, ih.1, ih.2]
    | agg xs vs hl => simp [RD.cells, ih.1, ih.2, hl]
 have hlen : cs.length = us.length := by rw [← hcs]; have := (hul _ _ _ hr.shape).1; rwa [List.length_map] at this
 have hσ : ∀ (i : Nat) r, cs[i]? = some r → r.isOwn = true → σ' (siteOf d i) = us[i]? := fun i r hi ho => by
  have h1 := resNews_at d cs 0 i r hi ho
  rw [Nat.zero_add] at h1
  show (match (resNews d 0 cs).lookup (siteOf d i) with | some _ => us[siteOf d i - d * 64]? | none => σ (siteOf d i)) = us[i]?
  cases hl : (resNews d 0 cs).lookup (siteOf d i) with
  | none => exact absurd hl h1
  | some c => show us[siteOf d i - d * 64]? = us[i]?; congr 1; unfold siteOf; omega
 have hownblk : ∀ b, Owns cs us b → w.heap.size ≤ b := by
  rintro b ⟨i, r, u, h1, ho, h2, h3⟩
  have hc := hcells i _ u h1 h2
  cases r with
  | p x => cases ho
  | any => cases ho
  | own e z n g =>
    obtain ⟨xs, h4, _⟩ := hc
    rcases h4.2 with ⟨rfl, _⟩ | ⟨b', cap, cur, rfl, hb', _⟩
    ·exact (own_nil h3).elim
    ·rw [own_s h3]; exact hb'
  | ownN e ei n m g => exact (NestOk.blk hc h3).1
 have hlive : ∀ b, Live σ' b → Live σ b ∨ Owns cs us b := by
  rintro b ⟨s, v, hs, hv⟩
  have hs : (match (resNews d 0 cs).lookup s with | some _ => us[s - d * 64]? | none => σ s) = some v := hs
  cases hl : (resNews d 0 cs).lookup s with
  | none => rw [hl] at hs; exact .inl ⟨s, v, hs, hv⟩
  | some c =>
    rw [hl] at hs
    obtain ⟨i, r, h1, ho, h2, h3⟩ := resNews_lookup d cs 0 s c hl
    have e1 : s - d * 64 = i := by rw [h2]; unfold siteOf; omega
    rw [e1] at hs
    exact .inr ⟨i, r, v, h1, ho, hs, hv⟩
 have hK : ∀ b, (w.heap.size ≤ b ∧ b < w'.heap.size ∧ ¬ Owns cs us b) → K base w' σ' true b := fun b ⟨h1, h2, h3⟩ => ⟨h2, fun hl => by
  rcases hlive b hl with h4 | h4
  ·have := hlv b h4; omega
  ·exact h3 h4, fun _ => by omega⟩
 refine ⟨σ', ⟨hb, fun s hs => ?_, fun s c hs => ?_, fun s s' v v' b hs hs' hv hv' hbv hbv' => ?_⟩, ?_⟩
 ·show (match (resNews d 0 cs).lookup s with | some _ => us[s - d * 64]? | none => σ s) = σ s
  rw [hs]
 ·obtain ⟨i, r, h1, ho, h2, h3⟩ := resNews_lookup d cs 0 s c hs
  rw [Nat.zero_add] at h2
  have hi : i < us.length := by rw [← hlen]; exact (List.getElem?_eq_some_iff.1 h1).1
  have hu := List.getElem?_eq_getElem hi
  have hc := hcells i _ _ h1 hu
  refine ⟨us[i], by rw [h2, hσ i r h1 ho]; exact hu, ?_, fun b hb' => hownblk b ⟨i, r, _, h1, ho, hu, hb'⟩⟩
  rw [h3]
  cases r with
  | p x => cases ho
  | any => cases ho
  | own e z n g =>
    obtain ⟨xs, k1, k2, k3, k4⟩ := hc
    refine ⟨xs, ⟨k1.1, ?_⟩, k2, k3, fun j q x hj hx => ?_⟩
    ·rcases k1.2 with k | ⟨b', cap, cur, e1, hb', rest⟩
     ·exact .inl k
     ·exact .inr ⟨b', cap, cur, e1, by omega, rest⟩
    ·obtain ⟨u, hu, hx⟩ := k4 j q x hj hx
     exact ⟨u, hu, hx.mono (fun _ _ => rfl) hK⟩
  | ownN e ei n m g => exact NestOk.base_le hc hbase
 ·have key : ∀ s v b, (resNews d 0 cs).lookup s ≠ none → σ' s = some v → Own v b → ∃ i r, cs[i]? = some r ∧ r.isOwn = true ∧ s = siteOf d i ∧ us[i]? = some v := fun s v b hs hv hb' => by
   obtain ⟨c, hc⟩ := Option.ne_none_iff_exists'.1 hs
   obtain ⟨i, r, h1, ho, h2, h3⟩ := resNews_lookup d cs 0 s c hc
   rw [Nat.zero_add] at h2
   refine ⟨i, r, h1, ho, h2, ?_⟩
   rw [← hσ i r h1 ho, ← h2]
   exact hv
  obtain ⟨i, r, h1, ho, h2, h3⟩ := key s v b hs hv hbv
  obtain ⟨i', r', h1', ho', h2', h3'⟩ := key s' v' b hs' hv' hbv'
  rw [h2, h2', hinj i i' r r' v v' b h1 h1' ho ho' h3 h3' hbv hbv']
 ·have cell : ∀ (i : Nat) r u, cs[i]? = some r → (us.map hdr)[i]? = some u → RepC base w' σ' (resC d i r) u := fun i r u0 hr' hu0 => by
   rw [List.getElem?_map] at hu0
   obtain ⟨u, hu, rfl⟩ := Option.map_eq_some_iff.1 hu0
   have h1 := hcells i r u hr' hu
   cases r with
   | p x => rw [hdr_one (Rep.one h1)]; exact Rep.mono h1 (fun _ _ => rfl) hK
   | any => rw [hdr_one h1]; exact h1
   | own e z n g =>
     have hu1 : u.oneCell' = true := by
      obtain ⟨xs, k1, _⟩ := h1
      rcases k1.2 with ⟨rfl, _⟩ | ⟨_, _, _, rfl, _⟩ <;> rfl
     rw [hdr_one hu1]
     exact ⟨by rw [hσ i _ hr' rfl]; exact hu, hu1⟩
   | ownN e ei n m g =>
     obtain ⟨hd, ins, rfl, k1, _⟩ := h1
     refine ⟨⟨ins, by rw [hσ i _ hr' rfl]; exact hu⟩, ?_⟩
     show hd.oneCell' = true
     rcases k1.2 with ⟨rfl, _⟩ | ⟨_, _, _, rfl, _⟩ <;> rfl
  have main : ∀ (ts : List RD) (vs2 us2 : List Value) (k : Nat), Shapes ts vs2 us2 → (∀ (i : Nat) r u, (ts.flatMap RD.cells)[i]? = some r → us2[i]? = some u → RepC base w' σ' (resC d (k + i) r) u) → RepTs base w' σ' (resDs d k ts) vs2 := by
   intro ts vs2 us2 k h
   induction h generalizing k with
   | nil => intro _; exact ⟨rfl, fun i t v ht => by simp [resDs] at ht⟩
   | @cons r rs v vs us ws h hs ih =>
     intro hc
     have hl : r.cells.length = us.length := by
      cases h with
      | c x v => rfl
      | agg xs vs hl => exact hl
     have h1 := ih (k + r.cells.length) (fun i r' u hr' hu => by
      have := hc (r.cells.length + i) r' u (by rw [List.flatMap_cons, List.getElem?_append_right (by omega)]; rw [← hr']; congr 1; omega) (by rw [List.getElem?_append_right (by omega)]; rw [← hu]; congr 1; omega)
      rwa [← Nat.add_assoc] at this)
     refine ⟨by simp [resDs, h1.1], fun i t u ht hu => ?_⟩
     cases i with
     | succ i => exact h1.2 i t u (by simpa [resDs] using ht) (by simpa using hu)
     | zero =>
       simp [resDs] at ht hu
       subst ht
       subst hu
       cases h with
       | c x v => exact hc 0 x v rfl rfl
       | agg xs vs' hl =>
         refine ⟨us, rfl, by rw [resCs_len]; exact hl, fun i c u hc' hu => ?_⟩
         rw [resCs_get] at hc'
         obtain ⟨r, hr', rfl⟩ := Option.map_eq_some_iff.1 hc'
         have hlt : i < xs.length := (List.getElem?_eq_some_iff.1 hr').1
         exact hc i r u (by rw [List.flatMap_cons]; show (xs ++ rs.flatMap RD.cells)[i]? = some r; rw [List.getElem?_append_left hlt]; exact hr') (by rw [List.getElem?_append_left (by omega)]; exact hu)
  have hts := main rds vs (us.map hdr) 0 hr.shape (fun i r u hr' hu => by rw [Nat.zero_add]; rw [hcs] at hr'; exact cell i r u hr' hu)
  unfold resEff one
  simp only
  split
  ·rename_i t ht
   rw [ht] at hts
   have hl := hts.1
   have h1 : vs.length = 1 := by simpa using hl.symm
   rw [dif_pos h1]
   exact hts.2 0 t vs[0] rfl (List.getElem?_eq_getElem (by omega))
  ·rename_i hne
   have h1 : vs.length ≠ 1 := fun h1 => by
    have hl := hts.1
    rw [h1] at hl
    obtain ⟨t, ht⟩ := List.length_eq_one_iff.1 hl
    exact hne t ht
   rw [dif_neg h1]
   exact ⟨vs, rfl, hts⟩
end Go.Av